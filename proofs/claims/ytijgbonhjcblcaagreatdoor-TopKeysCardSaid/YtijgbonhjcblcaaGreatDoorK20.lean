/- Texts that are merged into one file: MapC, SlLst, SlOps, SlIns, SlPut, SlCopy, SlNew, CpEqual, TlNf, TlAlive. -/
import Derived.Test.YtijgbonhjcblcaaGreatDoorK02
import Derived.Test.YtijgbonhjcblcaaGreatDoorK03
import Derived.Test.YtijgbonhjcblcaaGreatDoorK04
import Derived.Test.YtijgbonhjcblcaaGreatDoorK05
import Derived.Test.YtijgbonhjcblcaaGreatDoorK08
import Derived.Test.YtijgbonhjcblcaaGreatDoorK12
import Derived.Test.YtijgbonhjcblcaaGreatDoorK14
import Derived.Test.YtijgbonhjcblcaaGreatDoorK15
import Derived.Test.YtijgbonhjcblcaaGreatDoorK17
import Derived.Test.YtijgbonhjcblcaaGreatDoorK19
import Derived.BigQuiet
import Derived.Shelf.Spec.SlicesInsertGrow
import Derived.Shelf.Slices.Delete
import Derived.Shelf.Slices.Cells
import Derived.Shelf.Slices.Empties
import Derived.Test.YtijgbonhjcblcaaGreatDoorProg
import Derived.Deep.Cut
set_option maxRecDepth 100000
set_option maxHeartbeats 51200000
namespace Go.Proofs.YtijgbonhjcblcaaGreatDoor
open Go.RowKit Go.Maps Go.WideMaps
def MapC {κ:Type} (P:Program) (k:TypeId) (kl:κ→Lit) (ok:κ→Prop) (w:World) (b n:Nat) (f:κ→Option Value) (sz:Nat):Prop:=
 ∃D:DataW Value,w.ownsMap P k elemV b n D∧(∀x,ok x→Maps.has D (kl x)=(f x).isSome∧∀z,D.atKey (kl x) (.held z)=.held ((f x).getD z))∧Maps.size D=sz
section
variable {κ:Type} {P:Program} {k:TypeId} {kl:κ→Lit} {ok:κ→Prop} {w w':World} {b n sz:Nat} {f:κ→Option Value}
theorem MapC.is (h:MapC P k kl ok w b n f sz):MapIs P k kl ok w b n f:=by obtain ⟨D,h1,h2,_⟩:=h;exact ⟨D,h1,h2⟩
theorem MapC.made (P:Program) (k:TypeId) (kl:κ→Lit) (ok:κ→Prop) (w:World):MapC P k kl ok (w.alloc (.map #[] 0)) w.heap.size 0 (fun _=>none) 0:=
 ⟨.map [],World.ownsMap_made w P k elemV,fun _ _=>⟨rfl,fun _=>rfl⟩,rfl⟩
theorem MapC.lt (h:MapC P k kl ok w b n f sz):b < w.heap.size:=h.is.lt
theorem MapC.kept {row:Option Nat} (h:MapC P k kl ok w b n f sz) (hg:w.grownBy w' row) (hne:some b≠row):MapC P k kl ok w' b n f sz:=by
 obtain ⟨D,h1,h2⟩:=h
 exact ⟨D,h1.kept hg hne,h2⟩
theorem MapC.below (h:MapC P k kl ok w b n f sz) (hb:Below w.heap.size w w'):MapC P k kl ok w' b n f sz:=
 h.kept (row:=none) ⟨hb.os,hb.tape,hb.output,hb.size,fun k hk _=>hb.block k hk⟩ (by simp)
theorem MapC.put [DecidableEq κ] {t e:TypeId} (h:MapC P k kl ok w b n f sz) (K:Keyed P k) (ht:P.underlying t=some (.map k e)) (hn:n < maxLen) {key v:Value} {x:κ} (hx:ok x) (hkey:keyOf P k key=some (kl x))
  (hinj:∀y,ok y→kl y=kl x→y=x) :
  ∃w',(Instr.mapUpdate t (.map (some b)) key v).run P w=.ok () w'∧MapC P k kl ok w' b (n+1) (fun y=>if y=x then some v else f y) (if (f x).isSome=true then sz else sz+1)∧w.grownBy w' (some b):=by
 obtain ⟨D,h1,h2,h3⟩:=h
 obtain ⟨w',hrun,r1,r2⟩:=h1.update K ht hn hkey (val:=v) (d:=.held v) (ps:=[]) rfl
 refine ⟨w',hrun,⟨_,r1,fun y hy=>?_,?_⟩,r2⟩
 ·dsimp only
  by_cases e:y=x
  ·subst e
   rw [if_pos rfl]
   exact ⟨by rw [has_put_same h1.isMap (K.key hkey)];rfl,fun z=>atKey_put_same h1.isMap (K.key hkey) _ _⟩
  ·rw [if_neg e]
   have hne:kl y≠kl x:=fun e'=>e (hinj y hy e')
   rw [has_put_other hne]
   exact ⟨(h2 y hy).1,fun z=>(atKey_put_other hne _ _).trans ((h2 y hy).2 z)⟩
 ·rw [size_put (h1.tidy K),(h2 x hx).1,h3]
theorem MapC.drop [DecidableEq κ] {t e:TypeId} (h:MapC P k kl ok w b n f sz) (K:Keyed P k) (ht:P.underlying t=some (.map k e)) {key:Value} {x:κ} (hx:ok x) (hkey:keyOf P k key=some (kl x)) (hinj:∀y,ok y→kl y=kl x→y=x) (ty:TypeId) :
  ∃w',(Builtin.delete_ #[t,k] ty #[.map (some b),key]).run P w=.ok (.tuple #[]) w'∧MapC P k kl ok w' b n (fun y=>if y=x then none else f y) (sz - if (f x).isSome=true then 1 else 0)∧w.grownBy w' (some b):=by
 obtain ⟨D,h1,h2,h3⟩:=h
 obtain ⟨w',hrun,r1,r2⟩:=h1.drop K ht hkey ty
 refine ⟨w',hrun,⟨_,r1,fun y hy=>?_,?_⟩,r2.grown⟩
 ·dsimp only
  by_cases e:y=x
  ·subst e
   rw [if_pos rfl]
   exact ⟨has_del_same,fun z=>atKey_del_same _⟩
  ·rw [if_neg e]
   have hne:kl y≠kl x:=fun e'=>e (hinj y hy e')
   rw [has_del_other hne]
   exact ⟨(h2 y hy).1,fun z=>(atKey_del_other hne _).trans ((h2 y hy).2 z)⟩
 ·have h4:=size_del (k:=kl x) (h1.tidy K)
  rw [(h2 x hx).1,h3] at h4
  omega
theorem MapC.len {t e:TypeId} (h:MapC P k kl ok w b n f sz) (ht:P.underlying t=some (.map k e)) (ty:TypeId):(Builtin.len_ #[t] ty #[.map (some b)]).run P w=.ok (.int .i64 sz) w:=by
 obtain ⟨D,h1,_,h3⟩:=h
 rw [h1.len ht ty,h3]
end
section
variable {κ:Type} {P:Program} {w:World} {ops:Array Oper} {rest:List Oper} {o:Oper} {a:Act} {Q:Exit→Act→World→Prop} {md:Region.Mode} {S:World→Prop}
variable {k:TypeId} {kl:κ→Lit} {ok:κ→Prop} {b n sz:Nat} {f:κ→Option Value}
end
end Go.Proofs.YtijgbonhjcblcaaGreatDoor
namespace Go.Proofs.YtijgbonhjcblcaaGreatDoor
open Go.RowKit Go.Maps Go.WideMaps Srl
def kyN (x:Nrm) (c:Col) (o:Opt) (t:List Int):List Int:=keyN (optD o) (elsN x c t) (dtx x false t)
structure Chg (S:Nat→Prop) (w w':World):Prop where
 os:w'.os=w.os
 tape:w'.tape=w.tape
 output:w'.output=w.output
 size:w.heap.size≤w'.heap.size
 block:∀k,k < w.heap.size→¬S k→w'.heap[k]?=w.heap[k]?
theorem Chg.refl (S:Nat→Prop) (w:World):Chg S w w:=⟨rfl,rfl,rfl,Nat.le_refl _,fun _ _ _=>rfl⟩
theorem Chg.mono {S S':Nat→Prop} {w w':World} (h:Chg S w w') (hs:∀k,k < w.heap.size→S k→S' k):Chg S' w w':=⟨h.os,h.tape,h.output,h.size,fun k hk hn=>h.block k hk (fun q=>hn (hs k hk q))⟩
theorem Chg.trans {S:Nat→Prop} {a b c:World} (h:Chg S a b) (g:Chg S b c):Chg S a c:=
 ⟨g.os.trans h.os,g.tape.trans h.tape,g.output.trans h.output,Nat.le_trans h.size g.size,fun k hk hn=>(g.block k (Nat.lt_of_lt_of_le hk h.size) hn).trans (h.block k hk hn)⟩
theorem Chg.trans' {S S':Nat→Prop} {a b c:World} (h:Chg S a b) (g:Chg S' b c) (hs:∀k,S' k→S k∨a.heap.size≤k):Chg S a c:=
 ⟨g.os.trans h.os,g.tape.trans h.tape,g.output.trans h.output,Nat.le_trans h.size g.size,fun k hk hn=>(g.block k (Nat.lt_of_lt_of_le hk h.size) (fun q=>by rcases hs k q with e | e;exact hn e;omega)).trans (h.block k hk hn)⟩
theorem Chg.of_below {S:Nat→Prop} {w w':World} (h:Below w.heap.size w w'):Chg S w w':=⟨h.os,h.tape,h.output,h.size,fun k hk _=>h.block k hk⟩
theorem Chg.of_grown {S:Nat→Prop} {w w':World} {r:Option Nat} (h:w.grownBy w' r) (hr:∀q,r=some q→S q):Chg S w w':=⟨h.os,h.tape,h.output,h.size,fun k hk hn=>h.block k hk (fun e=>hn (hr k e.symm))⟩
theorem Chg.below {S:Nat→Prop} {w w':World} {n:Nat} (h:Chg S w w') (hn:n≤w.heap.size) (hs:∀k,S k→n≤k):Below n w w':=⟨h.os,h.tape,h.output,h.size,fun k hk=>h.block k (Nat.lt_of_lt_of_le hk hn) (fun q=>by have:=hs k q;omega)⟩
theorem Chg.sl {S:Nat→Prop} {w w':World} (h:Chg S w w') {A:Option Addr} {cs:List Value} (hA:Sl w A cs) (hn:cs≠[]→∀q,blk A=some q→¬S q):Sl w' A cs:=fun hne=>by
 obtain ⟨b,o,rfl,hc⟩:=hA hne
 have hb:b < w.heap.size:=sl_lt hA hne rfl
 refine ⟨b,o,rfl,fun j u hu=>?_⟩
 rw [World.cell?_of_block (h.block b hb (hn hne b rfl))]
 exact hc j u hu
theorem Chg.box {S:Nat→Prop} {w w':World} (h:Chg S w w') {b:Nat} {t:TypeId} {cs:List Value} (hB:Box w b t cs) (hn:¬S b):Box w' b t cs:=(h.block b hB.lt hn).trans hB
def CK (w w':World):Prop:=∀p v,w.cell? p=some v→w'.cell? p=some v
section
variable {w w':World}
theorem CK.sl (h:CK w w') {A:Option Addr} {cs:List Value} (hA:Sl w A cs):Sl w' A cs:=fun hne=>by
 obtain ⟨b,o,rfl,hc⟩:=hA hne
 exact ⟨b,o,rfl,fun j u hu=>h _ _ (hc j u hu)⟩
theorem CK.mps (h:CK w w') {A:Option Addr} {ms:List Mp} (hA:Mps w A ms):Mps w' A ms:=by
 obtain ⟨vs,h1,h2,h3⟩:=hA
 refine ⟨vs,h1,h.sl h2,fun i hi hv=>?_⟩
 obtain ⟨C,c,e1,e2,e3⟩:=h3 i hi hv
 exact ⟨C,c,e1,e2,h.sl e3⟩
theorem CK.nrm (h:CK w w') {A0:Option Addr} {n0:Nat} {A1:Option Addr} {n1:Nat} {A2:Option Addr} {n2:Nat} {x:Nrm} (hN:NrmAt w A0 n0 A1 n1 A2 n2 x):NrmAt w' A0 n0 A1 n1 A2 n2 x:=
 ⟨h.sl hN.s0,h.mps hN.s1,h.sl hN.s2,hN.l0,hN.l1,hN.l2⟩
theorem CK.ents (h:CK w w') {A:Option Addr} {xs:List Ent} (hA:Ents w A xs):Ents w' A xs:=by
 obtain ⟨vs,h1,h2,h3⟩:=hA
 refine ⟨vs,h1,h.sl h2,fun i hi hv=>?_⟩
 obtain ⟨C,c,E,d,e,e1,e2⟩:=(h3 i hi hv).ex
 exact ⟨C,c,E,d,e,h.sl e1,h.sl e2⟩
theorem CK.col (h:CK w w') {A:Option Addr} {n:Nat} {B:Option Addr} {m:Nat} {c:Col} (hC:ColAt w A n B m c):ColAt w' A n B m c:=
 ⟨h.ents hC.ents,h.sl hC.grps,hC.hn,hC.hm,hC.hs⟩
theorem Chg.ck {mb:Nat} (h:Chg (fun q=>q=mb) w w') (hm:∀o,w.cell? ⟨mb,o,none⟩=none):CK w w':=fun p v hp=>by
 have hs:p.spot=none:=World.cell?_spot hp
 have hb:=World.block_lt_of_cell? w _ hp
 obtain ⟨b,o,s⟩:=p
 dsimp only at hs hb
 subst hs
 have hne:¬b=mb:=by
  rintro rfl
  rw [hm o] at hp
  cases hp
 exact (World.cell?_of_block (h.block b hb hne)).trans hp
end
structure LsV where
 A0:Option Addr
 k0:Nat
 A1:Option Addr
 k1:Nat
 A2:Option Addr
 k2:Nat
 C:Option Addr
 a:Nat
 B:Option Addr
 b:Nat
def lsC (V:LsV) (x:Nrm) (c:Col) (o:Opt) (mb:Nat) (O:Option Addr) (n oc:Nat):List Value:=
 [.slice V.A0 x.cls.length V.k0,.slice V.A1 x.dec.length V.k1,.slice V.A2 x.exc.length V.k2,.slice V.C c.ents.length V.a,.slice V.B c.grps.length V.b,.int .i64 c.base,.int .i64 c.second,.int .i64 c.third,.int .i64 o.st,.int .i64 o.va,.bool o.bk,.bool o.idn,.map (some mb),.slice O n oc]
def Lf (l mb:Nat) (O:Option Addr) (k:Nat):Prop:=k=l∨k=mb∨blk O=some k
def ApI (S:Nat→Prop) (w:World) (A:Option Addr) (zs:List Int):Prop:=Ints w A zs∧(zs≠[]→∀q,blk A=some q→¬S q)
theorem ApI.chg {S:Nat→Prop} {w w':World} {A:Option Addr} {zs:List Int} (h:ApI S w A zs) (hc:Chg S w w'):Ints w' A zs:=hc.sl h.1 (fun hne=>h.2 (by rintro rfl;exact hne rfl))
theorem ApI.to {S S':Nat→Prop} {w w':World} {A:Option Addr} {zs:List Int} (h:ApI S w A zs) (hc:Chg S w w') (hs:∀k,S' k→S k∨w.heap.size≤k):ApI S' w' A zs:=
 ⟨h.chg hc,fun hne q hq hS=>by
  rcases hs q hS with g | g
  ·exact h.2 hne q hq g
  ·have:=sl_lt h.1 (ints_ne hne) hq;omega⟩
structure Lst (w:World) (l bs:Nat) (V:LsV) (mb:Nat) (O:Option Addr) (oc cnt:Nat) (x:Nrm) (c:Col) (o:Opt) (f:Int→Option Value) (L:Its):Prop where
 box:Box w l 92 (lsC V x c o mb O L.length oc)
 map:MapC Tryz.prog 3 ikey iok w mb cnt f L.length
 row:w.ownsRow bs 3 1 (.slice O L.length oc) L.length ((idsL L).map (Value.int .i64))
 set:∃w0:World,bs≤w0.heap.size∧w0.heap.size≤l∧(∀o,w0.cell? ⟨mb,o,Option.none⟩=Option.none)∧NrmAt w0 V.A0 x.cls.length V.A1 x.dec.length V.A2 x.exc.length x∧ColAt w0 V.C c.ents.length V.B c.grps.length c∧Laid w0∧Chg (fun q=>q=mb) w0 w∧(∀q,blk O=some q→w0.heap.size≤q)
 lol:bs≤l
 lom:bs≤mb
 nlm:l≠mb
 nlo:¬blk O=some l
 nmo:¬blk O=some mb
 item:∀p ∈ L,∃T tk K kk,f p.1=some (.agg #[.slice T p.2.length tk,.slice K (kyN x c o p.2).length kk])∧ApI (Lf l mb O) w T p.2∧ApI (Lf l mb O) w K (kyN x c o p.2)
 gone:∀id,iok id→id ∉ idsL L→f id=none
 srt:Srt (kyN x c o) L
 ok:∀p ∈ L,iok p.1∧p.2.length≤1000∧∀z ∈ p.2,iok z
 nz:NrmSz x
 cz:ColSz c
 len:L.length≤100
section
variable {w w':World} {l bs:Nat} {V:LsV} {mb:Nat} {O:Option Addr} {oc cnt:Nat} {x:Nrm} {c:Col} {o:Opt} {f:Int→Option Value} {L:Its}
theorem Lst.below (h:Lst w l bs V mb O oc cnt x c o f L) (hb:Below w.heap.size w w'):Lst w' l bs V mb O oc cnt x c o f L:=by
 obtain ⟨w0,e0,e1,e2,s1,s2,s3,s4,s5⟩:=h.set
 refine { h with box:=h.box.below hb h.box.lt,map:=h.map.below hb,row:=own_keep h.row hb,set:=⟨w0,e0,e1,e2,s1,s2,s3,s4.trans (Chg.of_below hb),s5⟩,item:=fun p hp=>?_ }
 obtain ⟨T,tk,K,kk,e,a1,a2⟩:=h.item p hp
 exact ⟨T,tk,K,kk,e,⟨a1.1.below hb,a1.2⟩,⟨a2.1.below hb,a2.2⟩⟩
theorem Lst.nrm (h:Lst w l bs V mb O oc cnt x c o f L):NrmAt w V.A0 x.cls.length V.A1 x.dec.length V.A2 x.exc.length x:=by obtain ⟨w0,_,_,e2,s1,_,_,s4,_⟩:=h.set;exact (s4.ck e2).nrm s1
theorem Lst.col (h:Lst w l bs V mb O oc cnt x c o f L):ColAt w V.C c.ents.length V.B c.grps.length c:=by obtain ⟨w0,_,_,e2,_,s2,_,s4,_⟩:=h.set;exact (s4.ck e2).col s2
theorem Lst.at (h:Lst w l bs V mb O oc cnt x c o f L) {i:Nat} (hi:i < L.length):∃g,O=some ⟨g,0,none⟩∧bs≤g∧g < w.heap.size∧w.cell? ⟨g,i,none⟩=some (.int .i64 L[i].1):=by
 obtain ⟨g,rfl,h1,h2⟩:=own_at h.row (by omega)
 refine ⟨g,rfl,h1,h2,?_⟩
 have:=h.row.cellAt i (by omega)
 rw [List.getElem?_map] at this
 rw [this]
 unfold idsL
 rw [List.getElem?_map,List.getElem?_eq_getElem hi]
 rfl
theorem Lst.get (h:Lst w l bs V mb O oc cnt x c o f L) {i:Nat} (hi:i < L.length):∃T tk K kk,f L[i].1=some (.agg #[.slice T L[i].2.length tk,.slice K (kyN x c o L[i].2).length kk])∧ApI (Lf l mb O) w T L[i].2∧ApI (Lf l mb O) w K (kyN x c o L[i].2):=h.item _ (List.getElem_mem hi)
theorem lf_new {O':Option Addr} {l mb:Nat} {O:Option Addr} {n:Nat} (hO:blk O'=blk O∨∀q,blk O'=some q→n≤q):∀k,Lf l mb O' k→Lf l mb O k∨n≤k:=by
 rintro k (rfl | rfl | e)
 ·exact .inl (.inl rfl)
 ·exact .inl (.inr (.inl rfl))
 ·rcases hO with g | g
  ·exact .inl (.inr (.inr (by rw [←g];exact e)))
  ·exact .inr (g k e)
theorem Lst.step (h:Lst w l bs V mb O oc cnt x c o f L) {O':Option Addr} {oc' cnt':Nat} {f':Int→Option Value} {L':Its} (hc:Chg (Lf l mb O) w w') (hO:blk O'=blk O∨∀q,blk O'=some q→w.heap.size≤q)
  (hbox:Box w' l 92 (lsC V x c o mb O' L'.length oc')) (hmap:MapC Tryz.prog 3 ikey iok w' mb cnt' f' L'.length) (hrow:w'.ownsRow bs 3 1 (.slice O' L'.length oc') L'.length ((idsL L').map (Value.int .i64)))
  (hitem:∀p ∈ L',(p ∈ L∧f' p.1=f p.1)∨∃T tk K kk,f' p.1=some (.agg #[.slice T p.2.length tk,.slice K (kyN x c o p.2).length kk])∧ApI (Lf l mb O') w' T p.2∧ApI (Lf l mb O') w' K (kyN x c o p.2))
  (hnone:∀id,iok id→id ∉ idsL L'→f' id=none) (hsrt:Srt (kyN x c o) L') (hok:∀p ∈ L',iok p.1∧p.2.length≤1000∧∀z ∈ p.2,iok z) (hlen:L'.length≤100) :
  Lst w' l bs V mb O' oc' cnt' x c o f' L':=by
 obtain ⟨w0,e0,e1,e2,s1,s2,s3,s4,s5⟩:=h.set
 have hl:=h.box.lt
 have hm:=h.map.lt
 have hzw:=s4.size
 refine { box:=hbox,map:=hmap,row:=hrow,set:=⟨w0,e0,e1,e2,s1,s2,s3,s4.trans' hc (fun k hk=>?_),fun q hq=>?_⟩,lol:=h.lol,lom:=h.lom,nlm:=h.nlm,nlo:=?_,nmo:=?_,item:=fun p hp=>?_,gone:=hnone,srt:=hsrt,ok:=hok,nz:=h.nz,cz:=h.cz,len:=hlen }
 ·rcases hk with rfl | rfl | g
  ·exact .inr e1
  ·exact .inl rfl
  ·exact .inr (s5 k g)
 ·rcases hO with g | g
  ·exact s5 q (by rw [←g];exact hq)
  ·have:=g q hq;omega
 ·intro e
  rcases hO with g | g
  ·exact h.nlo (by rw [←g];exact e)
  ·have:=g l e;omega
 ·intro e
  rcases hO with g | g
  ·exact h.nmo (by rw [←g];exact e)
  ·have:=g mb e;omega
 ·rcases hitem p hp with ⟨hp',ef⟩ | g
  ·obtain ⟨T,tk,K,kk,e,a1,a2⟩:=h.item p hp'
   exact ⟨T,tk,K,kk,ef.trans e,a1.to hc (lf_new hO),a2.to hc (lf_new hO)⟩
  ·exact g
end
end Go.Proofs.YtijgbonhjcblcaaGreatDoor
namespace Go.Proofs.YtijgbonhjcblcaaGreatDoor
open Go.RowKit Go.Maps Go.WideMaps Srl
section
variable {P:Program} {ops:Array Oper} {Q:Exit→Act→World→Prop} {md:Region.Mode} {S:World→Prop}
end
end Go.Proofs.YtijgbonhjcblcaaGreatDoor
namespace Go.Proofs.YtijgbonhjcblcaaGreatDoor
open Go.Shelf Go.RowKit
def insL (d:List Int) (i:Nat) (x:Int):List Int:=d.take i++x::d.drop i
end Go.Proofs.YtijgbonhjcblcaaGreatDoor
namespace Go.Proofs.YtijgbonhjcblcaaGreatDoor
open Go.RowKit Go.Maps Go.WideMaps Srl
section
variable {P:Program} {w:World} {ops:Array Oper} {rest:List Oper} {o:Oper} {a:Act} {Q:Exit→Act→World→Prop}
end
theorem lf_l (l mb:Nat) (O:Option Addr):Lf l mb O l:=.inl rfl
theorem lf_m (l mb:Nat) (O:Option Addr):Lf l mb O mb:=.inr (.inl rfl)
theorem lf_o {l mb:Nat} {O:Option Addr} {q:Nat} (h:blk O=some q):Lf l mb O q:=.inr (.inr h)
theorem row_kept {w w':World} {base n c:Nat} {e:TypeId} {A:Option Addr} {cs:List Value} {r:Option Nat} (h:w.ownsRow base e 1 (.slice A n c) n cs) (hg:w.grownBy w' r) (hr:∀q,r=some q→¬blk A=some q):w'.ownsRow base e 1 (.slice A n c) n cs:=by
 refine h.kept hg ?_
 rw [ownBlock_blk]
 cases hb:blk A with
 | none=>exact .inl rfl
 | some q=>exact .inr (fun e=>hr q e.symm hb)
section
variable {w w1 w2 w3:World} {l bs:Nat} {V:LsV} {mb:Nat} {O:Option Addr} {oc cnt:Nat} {x:Nrm} {c:Col} {o:Opt} {f:Int→Option Value} {L:Its}
end
theorem insL_ids {K:List Int→List Int} (L:Its) (id:Int) (t:List Int):idsL (putL K L id t)=insL (idsL (remL L id)) (atL K L id t) id:=by
 unfold idsL putL insL
 rw [List.map_append,List.map_cons,List.map_take,List.map_drop]
section
variable {w w4 w5 w6:World} {l bs:Nat} {V:LsV} {mb:Nat} {O:Option Addr} {oc cnt:Nat} {x:Nrm} {c:Col} {o:Opt} {f:Int→Option Value} {L L0:Its}
theorem Lst.put (h:Lst w l bs V mb O oc cnt x c o f L) {id:Int} {t:List Int} (hL:L=remL L0 id) (h0:Srt (kyN x c o) L0) (hid:iok id) (ht:t.length≤1000) (hio:∀z ∈ t,iok z) (hlen:L.length≤99) {T:Option Addr} {tk:Nat} {K:Option Addr} {kk:Nat}
  (hb4:Below w.heap.size w w4) (hT:w4.ownsRow w.heap.size 3 1 (.slice T t.length tk) t.length (t.map (Value.int .i64))) (hK:ApI (Lf l mb O) w K (kyN x c o t))
  (hm:MapC Tryz.prog 3 ikey iok w5 mb (cnt+1) (fun z=>if z=id then some (.agg #[.slice T t.length tk,.slice K (kyN x c o t).length kk]) else f z) (if (f id).isSome=true then L.length else L.length+1)) (hg5:w4.grownBy w5 (some mb))
  {B:Option Addr} {k:Nat} (hr:w6.ownsRow bs 3 1 (.slice B (L.length+1) k) (L.length+1) ((insL (idsL L) (atL (kyN x c o) L0 id t) id).map (Value.int .i64))) (hg6:(w5.alloc (.cells #[.int .i64 id] 3)).grownBy w6 (blk O)) (hB:blk B=blk O∨B=some ⟨(w5.alloc (.cells #[.int .i64 id] 3)).heap.size,0,none⟩) :
  ∃f',Lst (w6.setCell ⟨l,13,none⟩ (.slice B (L.length+1) k)) l bs V mb B k (cnt+1) x c o f' (putL (kyN x c o) L0 id t)∧Chg (Lf l mb O) w (w6.setCell ⟨l,13,none⟩ (.slice B (L.length+1) k))∧(blk B=blk O∨∀q,blk B=some q→w.heap.size≤q):=by
 have hni:id ∉ idsL L:=by rw [hL];exact remL_not
 have hfn:=h.gone id hid hni
 rw [hfn] at hm
 have el:(putL (kyN x c o) L0 id t).length=L.length+1:=by rw [putL_len,←hL]
 have eid:idsL (putL (kyN x c o) L0 id t)=insL (idsL L) (atL (kyN x c o) L0 id t) id:=by rw [insL_ids,←hL]
 have hlw:=h.box.lt
 have hmw:=h.map.lt
 have z4:=hb4.size
 have z5:=hg5.size
 have hal:Below w5.heap.size w5 (w5.alloc (.cells #[.int .i64 id] 3)):=(Below.refl _ _).alloc (Nat.le_refl _) _
 have zal:=hal.size
 have hgs:w6.grownBy (w6.setCell ⟨l,13,none⟩ (.slice B (L.length+1) k)) (some l):=grown_set w6 ⟨l,13,none⟩ _
 have hBn:∀q,blk B=some q→blk B=blk O∨(w5.alloc (.cells #[.int .i64 id] 3)).heap.size≤q:=fun q hq=>by
  rcases hB with g | g
  ·exact .inl g
  ·right;rw [g] at hq;have hq':=Option.some.inj (show some (w5.alloc (.cells #[.int .i64 id] 3)).heap.size=some q from hq);omega
 have hO':blk B=blk O∨∀q,blk B=some q→w.heap.size≤q:=by
  rcases hB with g | g
  ·exact .inl g
  ·right;intro q hq;rw [g] at hq;have hq':=Option.some.inj (show some (w5.alloc (.cells #[.int .i64 id] 3)).heap.size=some q from hq);omega
 have c45:Chg (Lf l mb O) w4 w5:=Chg.of_grown hg5 (fun q e=>by injection e with e;subst e;exact lf_m _ _ _)
 have c5:Chg (Lf l mb O) w5 (w6.setCell ⟨l,13,none⟩ (.slice B (L.length+1) k)):=((Chg.of_below hal).trans (Chg.of_grown hg6 (fun q e=>lf_o e))).trans (Chg.of_grown hgs (fun q e=>by injection e with e;subst e;exact lf_l _ _ _))
 have c4:=c45.trans c5
 have hc:=(Chg.of_below (S:=Lf l mb O) hb4).trans c4
 have hO4:blk B=blk O∨∀q,blk B=some q→w4.heap.size≤q:=by
  rcases hB with g | g
  ·exact .inl g
  ·right;intro q hq;rw [g] at hq;have hq':=Option.some.inj (show some (w5.alloc (.cells #[.int .i64 id] 3)).heap.size=some q from hq);omega
 have hOb:∀q,blk O=some q→q < w.heap.size:=fun q hq=>(own_blk h.row hq).2
 have nlB:¬blk B=some l:=fun e=>by
  rcases hBn l e with g | g
  ·exact h.nlo (by rw [←g];exact e)
  ·omega
 have nmB:¬blk B=some mb:=fun e=>by
  rcases hBn mb e with g | g
  ·exact h.nmo (by rw [←g];exact e)
  ·omega
 have apT:ApI (Lf l mb O) w4 T t:=⟨Sl.of_own hT,fun hne q hq hS=>by
  have h1:=(own_blk hT hq).1
  rcases hS with g | g | g
  ·omega
  ·omega
  ·have:=hOb q g;omega⟩
 refine ⟨_,h.step hc hO' ?_ (by rw [el];simpa using (((hm.below hal).kept hg6 (fun e=>h.nmo e.symm)).kept hgs (fun e=>h.nlm (by injection e with e;exact e.symm)))) ?_ (fun p hp=>?_) (fun id' hid' hn=>?_) (putL_srt h0 _ _) (fun p hp=>?_) (by rw [el];omega),hc,hO'⟩
 ·rw [el]
  have b4:=h.box.below hb4 hlw
  have b5:=b4.grown hg5 (fun e=>h.nlm (by injection e))
  have b6:=(bx_alloc b5 _).grown hg6 (fun e=>h.nlo e.symm)
  exact b6.set 13 _
 ·rw [el,eid]
  exact row_kept hr hgs (fun q e g=>nlB (by injection e with e;rw [e];exact g))
 ·rcases putL_mem.1 hp with rfl | ⟨g1,g2⟩
  ·right
   exact ⟨T,tk,K,kk,by simp,apT.to c4 (lf_new hO4),hK.to hc (lf_new hO')⟩
  ·left
   refine ⟨by rw [hL];exact remL_mem.2 ⟨g1,g2⟩,?_⟩
   rw [if_neg g2]
 ·rw [eid] at hn
  unfold insL at hn
  have h1:id'≠id:=fun e=>hn (by rw [e];simp)
  rw [if_neg h1]
  refine h.gone id' hid' (fun hin=>hn ?_)
  rw [←List.take_append_drop (atL (kyN x c o) L0 id t) (idsL L),List.mem_append] at hin
  rw [List.mem_append,List.mem_cons]
  rcases hin with g | g
  ·exact .inl g
  ·exact .inr (.inr g)
 ·rcases putL_mem.1 hp with rfl | ⟨g1,g2⟩
  ·exact ⟨hid,ht,hio⟩
  ·exact h.ok p (by rw [hL];exact remL_mem.2 ⟨g1,g2⟩)
end
end Go.Proofs.YtijgbonhjcblcaaGreatDoor
namespace Go.Proofs.YtijgbonhjcblcaaGreatDoor
open Go.RowKit Go.Maps Go.WideMaps
end Go.Proofs.YtijgbonhjcblcaaGreatDoor
namespace Go.Proofs.YtijgbonhjcblcaaGreatDoor
open Go.RowKit Go.Maps Go.WideMaps Srl
section
variable {P:Program} {ops:Array Oper} {Q:Exit→Act→World→Prop} {md:Region.Mode} {S:World→Prop}
def StepH (P:Program) (md:Region.Mode) (ops:Array Oper) (Q:Exit→Act→World→Prop) (S:World→Prop) (fuel:Nat) (listed:Array Bool) (i:Nat) (oi:Oper) (a:Act) (w:World):Prop:=
 ∀K:Act→World→Prop,Shut (∀a w,S w→(S w→wpAnyH P md ops Q S fuel (listed.setIfInBounds i true) a w)→K a w)→Oper.wp P oi a w K Q
theorem stepH_callE {R:Value→World→Prop} {i:Nat} {oi:Oper} {fuel:Nat} {listed:Array Bool} {a:Act} {w:World} (d:Option Tmp) {f:FuncId} {args:Array Value} (hd:oi.dst=d) (he:(execOp a.eval oi).run P w=.ok (.enter f args) w)
  (hc:Calls P f args w (fun e w'=>∃v,e=.returned v∧S w'∧R v w'))
  (h:∀v w',S w'→R v w'→wpAnyH P md ops Q S fuel (listed.setIfInBounds i true) (a.put d v) w'):StepH P md ops Q S fuel listed i oi a w:=by
 subst hd
 intro K hK
 unfold Oper.wp
 rw [he]
 simp only [Oper.upon]
 refine hc.mono ?_
 rintro e w' ⟨v,rfl,hS',hR'⟩
 exact hK.out _ _ hS' (fun hh=>h v w' hh hR')
theorem stepH_val {i:Nat} {oi:Oper} {fuel:Nat} {listed:Array Bool} {a:Act} {w w':World} {v:Value} (d:Option Tmp) (hd:oi.dst=d) (he:(execOp a.eval oi).run P w=.ok (.value v) w') (hS:S w')
  (h:wpAnyH P md ops Q S fuel (listed.setIfInBounds i true) (a.put d v) w'):StepH P md ops Q S fuel listed i oi a w:=by
 subst hd
 intro K hK
 unfold Oper.wp
 rw [he]
 simp only [Oper.upon]
 exact hK.out _ _ hS (fun _=>h)
theorem anyH_of2 {i j:Nat} {oi oj:Oper} {fuel:Nat} {listed:Array Bool} {a:Act} {w:World} (hi:ops[i]?=some oi) (hj:ops[j]?=some oj) (hr:Region.ready md ops listed=[i,j])
  (hwi:Region.wanted oi (yielded ops a.tmps)=true) (hwj:Region.wanted oj (yielded ops a.tmps)=true) (Hi:StepH P md ops Q S fuel listed i oi a w) (Hj:StepH P md ops Q S fuel listed j oj a w):wpAnyH P md ops Q S (fuel+1) listed a w:=by
 refine wpAnyH_ready hr (by simp) (AllReadyH.cons hi (fun K hK=>?_) (AllReadyH.cons hj (fun K hK=>?_) AllReadyH.nil))
 ·rw [if_pos hwi];exact Hi K hK
 ·rw [if_pos hwj];exact Hj K hK
end
end Go.Proofs.YtijgbonhjcblcaaGreatDoor
namespace Go.Proofs.YtijgbonhjcblcaaGreatDoor
open Go.RowKit
theorem cpEqual_any (A B:Option Addr) (n m c d:Nat) (xs ys:List Int) (w:World) (hA:Ints w A xs) (hB:Ints w B ys) (hn:xs.length=n) (hm:ys.length=m)
  (hn':n≤9223372036854775807) (hm':m≤9223372036854775807) :
  Calls Tryz.prog 64 #[.slice A n c,.slice B m d] w fun e w'=>e=.returned (.bool (decide (xs=ys)))∧Qt w w':=by
 have hd:decide (xs=ys)=(cmpL xs ys==0):=by
  rw [Bool.eq_iff_iff];simp [cmpL_eq_zero]
 rw [hd];clear hd
 have HC:=Lib.hid (cpCompare_any A B n m c d xs ys w hA hB hn hm hn' hm')
 clear hA hB hn hm
 go_enter Tryz.func64,Tryz.ntmps64
 go_wp2_with fail
 refine HC.out.mono ?_
 rintro e w' ⟨rfl,q,rfl⟩
 go_wp2_with fail
 go_ret
 exact ⟨rfl,by repeat (first | exact Qt.refl _ | refine Qt.drewN ?_ _)⟩
end Go.Proofs.YtijgbonhjcblcaaGreatDoor
namespace Go.Proofs.YtijgbonhjcblcaaGreatDoor
open Go.RowKit Go.Maps Go.WideMaps
def IsInts (zs:List Int) (v:Value) (w:World):Prop:=∃A k,v=.slice A zs.length k∧Ints w A zs
theorem IsInts.below {zs:List Int} {v:Value} {w w':World} (h:IsInts zs v w) (hb:Below w.heap.size w w'):IsInts zs v w':=by
 obtain ⟨A,k,e,h⟩:=h
 exact ⟨A,k,e,h.below hb⟩
theorem canonical_own (A0:Option Addr) (n0 k0:Nat) (A1:Option Addr) (n1 k1:Nat) (A2:Option Addr) (n2 k2:Nat) (x:Nrm) (D:Option Addr) (dn dk:Nat) (t:List Int) (w:World) (hN:NrmAt w A0 n0 A1 n1 A2 n2 x) (hz:NrmSz x) (hL:Laid w) (hD:Ints w D t) (hn:t.length=dn) (hbig:dn≤16384) (hio:∀z ∈ t,iok z) :
  Calls Tryz.prog 62 #[.agg #[.slice A0 n0 k0,.slice A1 n1 k1,.slice A2 n2 k2],.slice D dn dk] w (RetOwnI (dtx x false t) w):=by
 have B0:Below w.heap.size w (w.alloc (.cells #[.slice A0 n0 k0,.slice A1 n1 k1,.slice A2 n2 k2] 107)):=(by repeat (first | exact Below.refl _ _ | refine Below.alloc ?_ (by (try simp) <;> omega) _))
 have X0:Box (w.alloc (.cells #[.slice A0 n0 k0,.slice A1 n1 k1,.slice A2 n2 k2] 107)) (w.heap.size) 107 [.slice A0 n0 k0,.slice A1 n1 k1,.slice A2 n2 k2]:=Box.new w 107 [.slice A0 n0 k0,.slice A1 n1 k1,.slice A2 n2 k2] rfl
 have W0E:∃W0,(w.alloc (.cells #[.slice A0 n0 k0,.slice A1 n1 k1,.slice A2 n2 k2] 107))=W0:=⟨_,rfl⟩
 have DC:=Lib.hid (fun W (hb:Below w.heap.size w W)=>dText_own A0 n0 k0 A1 n1 k1 A2 n2 k2 x D dn dk t false W (hN.below hb) hz (hL.below hb) (hD.below hb) hn hbig hio)
 unfold RetOwnI at DC ⊢
 clear hN hz hL hD
 go_enter Tryz.func62,Tryz.ntmps62
 go_upto_region 1 with (fail)
 obtain ⟨W0,hW0⟩:=W0E
 try rw [hW0] at B0 X0 ⊢
 clear hW0
 have c0:=X0.cell (i:=0) rfl
 have c1:=X0.cell (i:=1) rfl
 have c2:=X0.cell (i:=2) rfl
 go_wp2_with fail
 with_reducible refine (DC.out W0 B0).mono ?_
 rintro e W1 ⟨A,k,rfl,ho,hb⟩
 go_wp2_with fail
 go_ret
 exact ⟨A,k,rfl,own_mono ho B0.size,B0.trans (hb.mono B0.size)⟩
theorem neq_nil (W:World):(binOp .neq 96 .nilFunc .nilFunc).run Tryz.prog W=.ok (.bool false) W:=by kernel_rfl
theorem formD_own (A0:Option Addr) (n0 k0:Nat) (A1:Option Addr) (n1 k1:Nat) (A2:Option Addr) (n2 k2:Nat) (x:Nrm) (D:Option Addr) (dn dk:Nat) (t:List Int) (w:World) (hN:NrmAt w A0 n0 A1 n1 A2 n2 x) (hz:NrmSz x) (hL:Laid w) (hD:Ints w D t) (hn:t.length=dn) (hbig:dn≤16384) (hio:∀z ∈ t,iok z) :
  Calls Tryz.prog 24 #[.agg #[.slice A0 n0 k0,.slice A1 n1 k1,.slice A2 n2 k2],.int .i64 2,.slice D dn dk] w (RetOwnI (dtx x false t) w):=by
 have B0:Below w.heap.size w (w.alloc (.cells #[.slice A0 n0 k0,.slice A1 n1 k1,.slice A2 n2 k2] 28)):=(by repeat (first | exact Below.refl _ _ | refine Below.alloc ?_ (by (try simp) <;> omega) _))
 have X0:Box (w.alloc (.cells #[.slice A0 n0 k0,.slice A1 n1 k1,.slice A2 n2 k2] 28)) (w.heap.size) 28 [.slice A0 n0 k0,.slice A1 n1 k1,.slice A2 n2 k2]:=Box.new w 28 [.slice A0 n0 k0,.slice A1 n1 k1,.slice A2 n2 k2] rfl
 have W0E:∃W0,(w.alloc (.cells #[.slice A0 n0 k0,.slice A1 n1 k1,.slice A2 n2 k2] 28))=W0:=⟨_,rfl⟩
 have nf:=neq_nil
 have DC:=Lib.hid (fun W (hb:Below w.heap.size w W)=>canonical_own A0 n0 k0 A1 n1 k1 A2 n2 k2 x D dn dk t W (hN.below hb) hz (hL.below hb) (hD.below hb) hn hbig hio)
 unfold RetOwnI at DC ⊢
 clear hN hz hL hD
 go_enter Tryz.func24,Tryz.ntmps24
 go_upto_region 1 with (fail)
 obtain ⟨W0,hW0⟩:=W0E
 try rw [hW0] at B0 X0 ⊢
 clear hW0
 have c0:=X0.cell (i:=0) rfl
 have c1:=X0.cell (i:=1) rfl
 have c2:=X0.cell (i:=2) rfl
 have B1:Below W0.heap.size W0 (W0.alloc (.cells #[.slice A0 n0 k0,.slice A1 n1 k1,.slice A2 n2 k2] 107)):=(Below.refl _ _).alloc (Nat.le_refl _) _
 have X1:Box (W0.alloc (.cells #[.slice A0 n0 k0,.slice A1 n1 k1,.slice A2 n2 k2] 107)) W0.heap.size 107 [.slice A0 n0 k0,.slice A1 n1 k1,.slice A2 n2 k2]:=Box.new _ _ _ rfl
 have W1E:∃W1,(W0.alloc (.cells #[.slice A0 n0 k0,.slice A1 n1 k1,.slice A2 n2 k2] 107))=W1:=⟨_,rfl⟩
 go_upto_region 2 with (fail)
 obtain ⟨W1,hW1⟩:=W1E
 try rw [hW1] at B1 X1 ⊢
 clear hW1 c0 c1 c2
 have B01:=B0.trans (B1.mono B0.size)
 have c0:=X1.cell (i:=0) rfl
 have c1:=X1.cell (i:=1) rfl
 have c2:=X1.cell (i:=2) rfl
 go_wp2_with fail
 with_reducible refine (DC.out W1 B01).mono ?_
 rintro e W2 ⟨A,k,rfl,ho,hb⟩
 go_wp2_with fail
 go_ret
 exact ⟨A,k,rfl,own_mono ho B01.size,B01.trans (hb.mono B01.size)⟩
theorem same_any (A0:Option Addr) (n0 k0:Nat) (A1:Option Addr) (n1 k1:Nat) (A2:Option Addr) (n2 k2:Nat) (x:Nrm) (D:Option Addr) (dn dk:Nat) (s:List Int) (E:Option Addr) (en ek:Nat) (t:List Int) (w:World) (hN:NrmAt w A0 n0 A1 n1 A2 n2 x) (hz:NrmSz x) (hL:Laid w) (hD:Ints w D s) (hn:s.length=dn) (hbig:dn≤16384) (hio:∀z ∈ s,iok z) (hE:Ints w E t) (hm:t.length=en) (hbig2:en≤16384) (hio2:∀z ∈ t,iok z) :
  Calls Tryz.prog 25 #[.agg #[.slice A0 n0 k0,.slice A1 n1 k1,.slice A2 n2 k2],.slice D dn dk,.slice E en ek,.bool false] w (RetBool (decide (dtx x false s=dtx x false t)) w):=by
 have B0:Below w.heap.size w (w.alloc (.cells #[.slice A0 n0 k0,.slice A1 n1 k1,.slice A2 n2 k2] 28)):=(by repeat (first | exact Below.refl _ _ | refine Below.alloc ?_ (by (try simp) <;> omega) _))
 have X0:Box (w.alloc (.cells #[.slice A0 n0 k0,.slice A1 n1 k1,.slice A2 n2 k2] 28)) (w.heap.size) 28 [.slice A0 n0 k0,.slice A1 n1 k1,.slice A2 n2 k2]:=Box.new w 28 [.slice A0 n0 k0,.slice A1 n1 k1,.slice A2 n2 k2] rfl
 have W0E:∃W0,(w.alloc (.cells #[.slice A0 n0 k0,.slice A1 n1 k1,.slice A2 n2 k2] 28))=W0:=⟨_,rfl⟩
 have hl1:=dtx_len x false s
 have hl2:=dtx_len x false t
 have l0:=X0.lt
 have SH0:=Lib.hid (fun (W0:World) (X0:Box W0 w.heap.size 28 [.slice A0 n0 k0,.slice A1 n1 k1,.slice A2 n2 k2])=>fun W' (hb':Below W0.heap.size W0 W')=>show W'.cell? ⟨w.heap.size,0,none⟩=some (.slice A0 n0 k0)∧W'.cell? ⟨w.heap.size,1,none⟩=some (.slice A1 n1 k1)∧W'.cell? ⟨w.heap.size,2,none⟩=some (.slice A2 n2 k2)∧Below W0.heap.size W0 W' from ⟨(X0.below hb' X0.lt).cell (i:=0) rfl,(X0.below hb' X0.lt).cell (i:=1) rfl,(X0.below hb' X0.lt).cell (i:=2) rfl,hb'⟩)
 have DC1:=Lib.hid (fun W (hb:Below w.heap.size w W)=>formD_own A0 n0 k0 A1 n1 k1 A2 n2 k2 x D dn dk s W (hN.below hb) hz (hL.below hb) (hD.below hb) hn hbig hio)
 have DC2:=Lib.hid (fun W (hb:Below w.heap.size w W)=>formD_own A0 n0 k0 A1 n1 k1 A2 n2 k2 x E en ek t W (hN.below hb) hz (hL.below hb) (hE.below hb) hm hbig2 hio2)
 unfold RetOwnI at DC1 DC2
 unfold RetBool
 clear hN hz hL hD hE hio hio2
 generalize dtx x false s=ds at *
 generalize dtx x false t=dt at *
 go_enter Tryz.func25,Tryz.ntmps25
 go_upto_region 1 with (fail)
 obtain ⟨W0,hW0⟩:=W0E
 try rw [hW0] at B0 X0 ⊢
 clear hW0
 have SH:=Lib.hid (SH0.out W0 X0)
 clear SH0 l0
 have K1:=Lib.hid (fun W (hS:W.cell? ⟨w.heap.size,0,none⟩=some (.slice A0 n0 k0)∧W.cell? ⟨w.heap.size,1,none⟩=some (.slice A1 n1 k1)∧W.cell? ⟨w.heap.size,2,none⟩=some (.slice A2 n2 k2)∧Below W0.heap.size W0 W)=>(DC1.out W (B0.trans ((hS.2.2.2).mono B0.size))).mono (R':=fun e W'=>∃v,e=.returned v∧(W'.cell? ⟨w.heap.size,0,none⟩=some (.slice A0 n0 k0)∧W'.cell? ⟨w.heap.size,1,none⟩=some (.slice A1 n1 k1)∧W'.cell? ⟨w.heap.size,2,none⟩=some (.slice A2 n2 k2)∧Below W0.heap.size W0 W')∧IsInts ds v W'∧Below W.heap.size W W') (fun e W' ⟨A,k,he,ho,hb⟩=>⟨_,he,SH.out W' ((hS.2.2.2).trans (hb.mono (hS.2.2.2).size)),⟨A,k,rfl,Sl.of_own ho⟩,hb⟩))
 have K2:=Lib.hid (fun W (hS:W.cell? ⟨w.heap.size,0,none⟩=some (.slice A0 n0 k0)∧W.cell? ⟨w.heap.size,1,none⟩=some (.slice A1 n1 k1)∧W.cell? ⟨w.heap.size,2,none⟩=some (.slice A2 n2 k2)∧Below W0.heap.size W0 W)=>(DC2.out W (B0.trans ((hS.2.2.2).mono B0.size))).mono (R':=fun e W'=>∃v,e=.returned v∧(W'.cell? ⟨w.heap.size,0,none⟩=some (.slice A0 n0 k0)∧W'.cell? ⟨w.heap.size,1,none⟩=some (.slice A1 n1 k1)∧W'.cell? ⟨w.heap.size,2,none⟩=some (.slice A2 n2 k2)∧Below W0.heap.size W0 W')∧IsInts dt v W'∧Below W.heap.size W W') (fun e W' ⟨A,k,he,ho,hb⟩=>⟨_,he,SH.out W' ((hS.2.2.2).trans (hb.mono (hS.2.2.2).size)),⟨A,k,rfl,Sl.of_own ho⟩,hb⟩))
 clear X0
 go_wp2_with fail
 refine wp_region_held_drew (S:=fun W'=>W'.cell? ⟨w.heap.size,0,none⟩=some (.slice A0 n0 k0)∧W'.cell? ⟨w.heap.size,1,none⟩=some (.slice A1 n1 k1)∧W'.cell? ⟨w.heap.size,2,none⟩=some (.slice A2 n2 k2)∧Below W0.heap.size W0 W') (by kernel_rfl) (SH.out _ ((Below.refl _ _).drew)) (fun hHeld=>?_)
 refine tK 0 11 ?_
 refine tK 1 12 ?_
 refine tK 2 13 ?_
 refine tK 4 15 ?_
 refine tK 5 16 ?_
 refine tK 6 17 ?_
 refine qE 3 14 (K1.out _ hHeld) ?_
 clear hHeld
 rintro _ W6 hHeld ⟨⟨P1,k1,rfl,hi1⟩,hq1⟩
 refine qE 7 18 (K2.out _ hHeld) ?_
 clear hHeld
 rintro _ W7 hHeld ⟨⟨P2,k2,rfl,hi2⟩,hq2⟩
 replace hi1:=Sl.below hi1 hq2
 clear hq1 hq2
 refine qK 8 19 ((cpEqual_any P1 P2 _ _ k1 k2 ds dt _ hi1 hi2 rfl rfl (by omega) (by omega)).mono (R':=fun e w'=>e=.returned (.bool (decide (ds=dt)))∧_) (fun e w' ⟨he,hq⟩=>⟨he,SH.out w' ((hHeld.2.2.2).trans (hq.below.mono (hHeld.2.2.2).size))⟩)) ?_
 clear hHeld
 intro W7 hHeld
 refine tK 9 8 ?_
 refine wpAnyH_done (by kernel_rfl) ?_ _
 have hfin:=hHeld.2.2.2
 clear hHeld SH K1 K2 hi1 hi2
 have hbn:=B0.trans (hfin.mono B0.size)
 clear hfin
 go_wp2_with fail
 go_ret
 exact ⟨rfl,hbn⟩
theorem keyN_len (o:Opt) (x:Nrm) (c:Col) (t:List Int) (h:t.length≤16384):(keyN (optD o) (elsN x c t) (dtx x false t)).length≤9223372036854775807:=by
 obtain ⟨⟨_,h4⟩,_⟩:=optD_bd o
 have h1:=joinW_len (optD o) (elsN x c t) h4 (wgtL (optD o) (elsN x c t)).length
 rw [List.take_length] at h1
 have h2:=elsN_len x c t
 have h3:=dtx_len x false t
 have h5:=idnL_len (dtx x false t)
 unfold keyN
 rw [List.length_append]
 split
 ·rw [List.length_cons];omega
 ·simp;omega
theorem compare_any (A0:Option Addr) (n0 k0:Nat) (A1:Option Addr) (n1 k1:Nat) (A2:Option Addr) (n2 k2:Nat) (x:Nrm) (C:Option Addr) (n a:Nat) (B:Option Addr) (m b:Nat) (c:Col) (o:Opt) (D:Option Addr) (dn dk:Nat) (s:List Int) (E:Option Addr) (en ek:Nat) (t:List Int) (w:World) (hN:NrmAt w A0 n0 A1 n1 A2 n2 x) (hz:NrmSz x) (hL:Laid w) (hC:ColAt w C n B m c) (hcz:ColSz c) (hD:Ints w D s) (hn:s.length=dn) (hbig:dn≤16384) (hio:∀z ∈ s,iok z) (hE:Ints w E t) (hm:t.length=en) (hbig2:en≤16384) (hio2:∀z ∈ t,iok z) :
  Calls Tryz.prog 8 #[.agg #[.slice A0 n0 k0,.slice A1 n1 k1,.slice A2 n2 k2],.agg #[.slice C n a,.slice B m b,.int .i64 c.base,.int .i64 c.second,.int .i64 c.third],.agg #[.int .i64 o.st,.int .i64 o.va,.bool o.bk,.bool o.idn],.slice D dn dk,.slice E en ek] w (RetInt (cmpL (keyN (optD o) (elsN x c s) (dtx x false s)) (keyN (optD o) (elsN x c t) (dtx x false t))) w):=by
 have B0:Below w.heap.size w (((w.alloc (.cells #[.slice A0 n0 k0,.slice A1 n1 k1,.slice A2 n2 k2] 28)).alloc (.cells #[.slice C n a,.slice B m b,.int .i64 c.base,.int .i64 c.second,.int .i64 c.third] 32)).alloc (.cells #[.int .i64 o.st,.int .i64 o.va,.bool o.bk,.bool o.idn] 34)):=(by repeat (first | exact Below.refl _ _ | refine Below.alloc ?_ (by (try simp) <;> omega) _))
 have X0:Box (((w.alloc (.cells #[.slice A0 n0 k0,.slice A1 n1 k1,.slice A2 n2 k2] 28)).alloc (.cells #[.slice C n a,.slice B m b,.int .i64 c.base,.int .i64 c.second,.int .i64 c.third] 32)).alloc (.cells #[.int .i64 o.st,.int .i64 o.va,.bool o.bk,.bool o.idn] 34)) (w.heap.size) 28 [.slice A0 n0 k0,.slice A1 n1 k1,.slice A2 n2 k2]:=bx_alloc (bx_alloc (Box.new w 28 [.slice A0 n0 k0,.slice A1 n1 k1,.slice A2 n2 k2] rfl) _) _
 have X1:Box (((w.alloc (.cells #[.slice A0 n0 k0,.slice A1 n1 k1,.slice A2 n2 k2] 28)).alloc (.cells #[.slice C n a,.slice B m b,.int .i64 c.base,.int .i64 c.second,.int .i64 c.third] 32)).alloc (.cells #[.int .i64 o.st,.int .i64 o.va,.bool o.bk,.bool o.idn] 34)) (w.heap.size+1) 32 [.slice C n a,.slice B m b,.int .i64 c.base,.int .i64 c.second,.int .i64 c.third]:=bx_alloc (Box.new (w.alloc (.cells #[.slice A0 n0 k0,.slice A1 n1 k1,.slice A2 n2 k2] 28)) 32 [.slice C n a,.slice B m b,.int .i64 c.base,.int .i64 c.second,.int .i64 c.third] (by simp)) _
 have X2:Box (((w.alloc (.cells #[.slice A0 n0 k0,.slice A1 n1 k1,.slice A2 n2 k2] 28)).alloc (.cells #[.slice C n a,.slice B m b,.int .i64 c.base,.int .i64 c.second,.int .i64 c.third] 32)).alloc (.cells #[.int .i64 o.st,.int .i64 o.va,.bool o.bk,.bool o.idn] 34)) (w.heap.size+1+1) 34 [.int .i64 o.st,.int .i64 o.va,.bool o.bk,.bool o.idn]:=Box.new ((w.alloc (.cells #[.slice A0 n0 k0,.slice A1 n1 k1,.slice A2 n2 k2] 28)).alloc (.cells #[.slice C n a,.slice B m b,.int .i64 c.base,.int .i64 c.second,.int .i64 c.third] 32)) 34 [.int .i64 o.st,.int .i64 o.va,.bool o.bk,.bool o.idn] (by simp)
 have W0E:∃W0,(((w.alloc (.cells #[.slice A0 n0 k0,.slice A1 n1 k1,.slice A2 n2 k2] 28)).alloc (.cells #[.slice C n a,.slice B m b,.int .i64 c.base,.int .i64 c.second,.int .i64 c.third] 32)).alloc (.cells #[.int .i64 o.st,.int .i64 o.va,.bool o.bk,.bool o.idn] 34))=W0:=⟨_,rfl⟩
 have hl1:=keyN_len o x c s (by omega)
 have hl2:=keyN_len o x c t (by omega)
 have SH0:=Lib.hid (fun (W0:World) (X0:Box W0 (w.heap.size) 28 [.slice A0 n0 k0,.slice A1 n1 k1,.slice A2 n2 k2]) (X1:Box W0 (w.heap.size+1) 32 [.slice C n a,.slice B m b,.int .i64 c.base,.int .i64 c.second,.int .i64 c.third]) (X2:Box W0 (w.heap.size+1+1) 34 [.int .i64 o.st,.int .i64 o.va,.bool o.bk,.bool o.idn])=>fun W' (hb':Below W0.heap.size W0 W')=>show W'.cell? ⟨w.heap.size,0,none⟩=some (.slice A0 n0 k0)∧W'.cell? ⟨w.heap.size,1,none⟩=some (.slice A1 n1 k1)∧W'.cell? ⟨w.heap.size,2,none⟩=some (.slice A2 n2 k2)∧W'.cell? ⟨w.heap.size+1,0,none⟩=some (.slice C n a)∧W'.cell? ⟨w.heap.size+1,1,none⟩=some (.slice B m b)∧W'.cell? ⟨w.heap.size+1,2,none⟩=some (.int .i64 c.base)∧W'.cell? ⟨w.heap.size+1,3,none⟩=some (.int .i64 c.second)∧W'.cell? ⟨w.heap.size+1,4,none⟩=some (.int .i64 c.third)∧W'.cell? ⟨w.heap.size+1+1,0,none⟩=some (.int .i64 o.st)∧W'.cell? ⟨w.heap.size+1+1,1,none⟩=some (.int .i64 o.va)∧W'.cell? ⟨w.heap.size+1+1,2,none⟩=some (.bool o.bk)∧W'.cell? ⟨w.heap.size+1+1,3,none⟩=some (.bool o.idn)∧Below W0.heap.size W0 W' from ⟨(X0.below hb' X0.lt).cell (i:=0) rfl,(X0.below hb' X0.lt).cell (i:=1) rfl,(X0.below hb' X0.lt).cell (i:=2) rfl,(X1.below hb' X1.lt).cell (i:=0) rfl,(X1.below hb' X1.lt).cell (i:=1) rfl,(X1.below hb' X1.lt).cell (i:=2) rfl,(X1.below hb' X1.lt).cell (i:=3) rfl,(X1.below hb' X1.lt).cell (i:=4) rfl,(X2.below hb' X2.lt).cell (i:=0) rfl,(X2.below hb' X2.lt).cell (i:=1) rfl,(X2.below hb' X2.lt).cell (i:=2) rfl,(X2.below hb' X2.lt).cell (i:=3) rfl,hb'⟩)
 have DC1:=Lib.hid (fun W (hb:Below w.heap.size w W)=>key_own A0 n0 k0 A1 n1 k1 A2 n2 k2 x C n a B m b c o D dn dk s W (hN.below hb) hz (hL.below hb) (hC.below hb) hcz (hD.below hb) hn hbig hio)
 have DC2:=Lib.hid (fun W (hb:Below w.heap.size w W)=>key_own A0 n0 k0 A1 n1 k1 A2 n2 k2 x C n a B m b c o E en ek t W (hN.below hb) hz (hL.below hb) (hC.below hb) hcz (hE.below hb) hm hbig2 hio2)
 unfold RetOwnI at DC1 DC2
 unfold colV at DC1 DC2
 unfold RetInt
 clear hN hz hL hD hE hio hio2 hC hcz
 generalize keyN (optD o) (elsN x c s) (dtx x false s)=ds at *
 generalize keyN (optD o) (elsN x c t) (dtx x false t)=dt at *
 go_enter Tryz.func8,Tryz.ntmps8
 go_upto_region 1 with (fail)
 obtain ⟨W0,hW0⟩:=W0E
 try rw [hW0] at B0 X0 X1 X2 ⊢
 clear hW0
 have SH:=Lib.hid (SH0.out W0 X0 X1 X2)
 clear SH0
 have K1:=Lib.hid (fun W (hS:W.cell? ⟨w.heap.size,0,none⟩=some (.slice A0 n0 k0)∧W.cell? ⟨w.heap.size,1,none⟩=some (.slice A1 n1 k1)∧W.cell? ⟨w.heap.size,2,none⟩=some (.slice A2 n2 k2)∧W.cell? ⟨w.heap.size+1,0,none⟩=some (.slice C n a)∧W.cell? ⟨w.heap.size+1,1,none⟩=some (.slice B m b)∧W.cell? ⟨w.heap.size+1,2,none⟩=some (.int .i64 c.base)∧W.cell? ⟨w.heap.size+1,3,none⟩=some (.int .i64 c.second)∧W.cell? ⟨w.heap.size+1,4,none⟩=some (.int .i64 c.third)∧W.cell? ⟨w.heap.size+1+1,0,none⟩=some (.int .i64 o.st)∧W.cell? ⟨w.heap.size+1+1,1,none⟩=some (.int .i64 o.va)∧W.cell? ⟨w.heap.size+1+1,2,none⟩=some (.bool o.bk)∧W.cell? ⟨w.heap.size+1+1,3,none⟩=some (.bool o.idn)∧Below W0.heap.size W0 W)=>(DC1.out W (B0.trans ((hS.2.2.2.2.2.2.2.2.2.2.2.2).mono B0.size))).mono (R':=fun e W'=>∃v,e=.returned v∧(W'.cell? ⟨w.heap.size,0,none⟩=some (.slice A0 n0 k0)∧W'.cell? ⟨w.heap.size,1,none⟩=some (.slice A1 n1 k1)∧W'.cell? ⟨w.heap.size,2,none⟩=some (.slice A2 n2 k2)∧W'.cell? ⟨w.heap.size+1,0,none⟩=some (.slice C n a)∧W'.cell? ⟨w.heap.size+1,1,none⟩=some (.slice B m b)∧W'.cell? ⟨w.heap.size+1,2,none⟩=some (.int .i64 c.base)∧W'.cell? ⟨w.heap.size+1,3,none⟩=some (.int .i64 c.second)∧W'.cell? ⟨w.heap.size+1,4,none⟩=some (.int .i64 c.third)∧W'.cell? ⟨w.heap.size+1+1,0,none⟩=some (.int .i64 o.st)∧W'.cell? ⟨w.heap.size+1+1,1,none⟩=some (.int .i64 o.va)∧W'.cell? ⟨w.heap.size+1+1,2,none⟩=some (.bool o.bk)∧W'.cell? ⟨w.heap.size+1+1,3,none⟩=some (.bool o.idn)∧Below W0.heap.size W0 W')∧IsInts ds v W'∧Below W.heap.size W W') (fun e W' ⟨A,k,he,ho,hb⟩=>⟨_,he,SH.out W' ((hS.2.2.2.2.2.2.2.2.2.2.2.2).trans (hb.mono (hS.2.2.2.2.2.2.2.2.2.2.2.2).size)),⟨A,k,rfl,Sl.of_own ho⟩,hb⟩))
 have K2:=Lib.hid (fun W (hS:W.cell? ⟨w.heap.size,0,none⟩=some (.slice A0 n0 k0)∧W.cell? ⟨w.heap.size,1,none⟩=some (.slice A1 n1 k1)∧W.cell? ⟨w.heap.size,2,none⟩=some (.slice A2 n2 k2)∧W.cell? ⟨w.heap.size+1,0,none⟩=some (.slice C n a)∧W.cell? ⟨w.heap.size+1,1,none⟩=some (.slice B m b)∧W.cell? ⟨w.heap.size+1,2,none⟩=some (.int .i64 c.base)∧W.cell? ⟨w.heap.size+1,3,none⟩=some (.int .i64 c.second)∧W.cell? ⟨w.heap.size+1,4,none⟩=some (.int .i64 c.third)∧W.cell? ⟨w.heap.size+1+1,0,none⟩=some (.int .i64 o.st)∧W.cell? ⟨w.heap.size+1+1,1,none⟩=some (.int .i64 o.va)∧W.cell? ⟨w.heap.size+1+1,2,none⟩=some (.bool o.bk)∧W.cell? ⟨w.heap.size+1+1,3,none⟩=some (.bool o.idn)∧Below W0.heap.size W0 W)=>(DC2.out W (B0.trans ((hS.2.2.2.2.2.2.2.2.2.2.2.2).mono B0.size))).mono (R':=fun e W'=>∃v,e=.returned v∧(W'.cell? ⟨w.heap.size,0,none⟩=some (.slice A0 n0 k0)∧W'.cell? ⟨w.heap.size,1,none⟩=some (.slice A1 n1 k1)∧W'.cell? ⟨w.heap.size,2,none⟩=some (.slice A2 n2 k2)∧W'.cell? ⟨w.heap.size+1,0,none⟩=some (.slice C n a)∧W'.cell? ⟨w.heap.size+1,1,none⟩=some (.slice B m b)∧W'.cell? ⟨w.heap.size+1,2,none⟩=some (.int .i64 c.base)∧W'.cell? ⟨w.heap.size+1,3,none⟩=some (.int .i64 c.second)∧W'.cell? ⟨w.heap.size+1,4,none⟩=some (.int .i64 c.third)∧W'.cell? ⟨w.heap.size+1+1,0,none⟩=some (.int .i64 o.st)∧W'.cell? ⟨w.heap.size+1+1,1,none⟩=some (.int .i64 o.va)∧W'.cell? ⟨w.heap.size+1+1,2,none⟩=some (.bool o.bk)∧W'.cell? ⟨w.heap.size+1+1,3,none⟩=some (.bool o.idn)∧Below W0.heap.size W0 W')∧IsInts dt v W'∧Below W.heap.size W W') (fun e W' ⟨A,k,he,ho,hb⟩=>⟨_,he,SH.out W' ((hS.2.2.2.2.2.2.2.2.2.2.2.2).trans (hb.mono (hS.2.2.2.2.2.2.2.2.2.2.2.2).size)),⟨A,k,rfl,Sl.of_own ho⟩,hb⟩))
 clear X0 X1 X2
 go_wp2_with fail
 refine wp_region_held_drew (S:=fun W'=>W'.cell? ⟨w.heap.size,0,none⟩=some (.slice A0 n0 k0)∧W'.cell? ⟨w.heap.size,1,none⟩=some (.slice A1 n1 k1)∧W'.cell? ⟨w.heap.size,2,none⟩=some (.slice A2 n2 k2)∧W'.cell? ⟨w.heap.size+1,0,none⟩=some (.slice C n a)∧W'.cell? ⟨w.heap.size+1,1,none⟩=some (.slice B m b)∧W'.cell? ⟨w.heap.size+1,2,none⟩=some (.int .i64 c.base)∧W'.cell? ⟨w.heap.size+1,3,none⟩=some (.int .i64 c.second)∧W'.cell? ⟨w.heap.size+1,4,none⟩=some (.int .i64 c.third)∧W'.cell? ⟨w.heap.size+1+1,0,none⟩=some (.int .i64 o.st)∧W'.cell? ⟨w.heap.size+1+1,1,none⟩=some (.int .i64 o.va)∧W'.cell? ⟨w.heap.size+1+1,2,none⟩=some (.bool o.bk)∧W'.cell? ⟨w.heap.size+1+1,3,none⟩=some (.bool o.idn)∧Below W0.heap.size W0 W') (by kernel_rfl) (SH.out _ ((Below.refl _ _).drew)) (fun hHeld=>?_)
 refine tK 0 11 ?_
 refine tK 1 12 ?_
 refine tK 2 13 ?_
 refine tK 3 14 ?_
 refine tK 5 16 ?_
 refine tK 6 17 ?_
 refine tK 7 18 ?_
 refine tK 8 19 ?_
 refine qE 4 15 (K1.out _ hHeld) ?_
 clear hHeld
 rintro _ W6 hHeld ⟨⟨P1,k1,rfl,hi1⟩,hq1⟩
 refine qE 9 20 (K2.out _ hHeld) ?_
 clear hHeld
 rintro _ W7 hHeld ⟨⟨P2,k2,rfl,hi2⟩,hq2⟩
 replace hi1:=Sl.below hi1 hq2
 clear hq1 hq2
 refine qK 10 21 ((cpCompare_any P1 P2 _ _ k1 k2 ds dt _ hi1 hi2 rfl rfl (by omega) (by omega)).mono (R':=fun e w'=>e=.returned (.int .i64 (cmpL ds dt))∧_) (fun e w' ⟨he,hq⟩=>⟨he,SH.out w' ((hHeld.2.2.2.2.2.2.2.2.2.2.2.2).trans (hq.below.mono (hHeld.2.2.2.2.2.2.2.2.2.2.2.2).size))⟩)) ?_
 clear hHeld
 intro W7 hHeld
 refine tK 11 10 ?_
 refine wpAnyH_done (by kernel_rfl) ?_ _
 have hfin:=hHeld.2.2.2.2.2.2.2.2.2.2.2.2
 clear hHeld SH K1 K2 hi1 hi2
 have hbn:=B0.trans (hfin.mono B0.size)
 clear hfin
 go_wp2_with fail
 go_ret
 exact ⟨rfl,hbn⟩
theorem equal_any (A B:Option Addr) (n m c d:Nat) (xs ys:List Int) (w:World) (hA:Ints w A xs) (hB:Ints w B ys) (hn:xs.length=n) (hm:ys.length=m) (hn':n≤9223372036854775807) (hm':m≤9223372036854775807) :
  Calls Tryz.prog 19 #[.slice A n c,.slice B m d] w (RetBool (decide (xs=ys)) w):=by
 have K:=Lib.hid (Equal_any A B n m c d xs ys w hA hB hn hm hn' hm')
 clear hA hB hn hm
 generalize decide (xs=ys)=r at *
 unfold RetBool
 go_enter Tryz.func19,Tryz.ntmps19
 go_wp2_with fail
 with_reducible refine K.out.mono ?_
 rintro e W1 ⟨rfl,hq⟩
 have hb:=hq.below
 go_wp2_with fail
 go_ret
 exact ⟨rfl,hb⟩
end Go.Proofs.YtijgbonhjcblcaaGreatDoor
namespace Go.Proofs.YtijgbonhjcblcaaGreatDoor
open Go.RowKit Go.Maps Go.WideMaps
def x7:Nrm:=⟨[],[⟨225,[97,769],.empty⟩],[]⟩
def c7:Col:=⟨[],[],0,0,0⟩
def o7:Opt:=⟨3,1,false,false⟩
def ky7 (t:List Int):List Int:=keyN (optD o7) (elsN x7 c7 t) (dtx x7 false t)
theorem a7_err:nErr x7=0:=by rfl
theorem a7_us:usN x7=x7:=if_pos a7_err
theorem a7_d1:dtx x7 false [225]=[97,769]:=by unfold dtx;rw [a7_us];rfl
theorem a7_d2:dtx x7 false [97,769]=[97,769]:=by unfold dtx;rw [a7_us];rfl
theorem a7_e (t:List Int):ky7 t=keyN ⟨3,1,false,false⟩ (Mtc.elems (cls []) (lastE []) (impE ⟨[],[],64448,32,2⟩) (Can.srt (clz []) (flM x7 false t))) []:=by
 unfold ky7 elsN dtx
 rw [a7_us]
 rfl
theorem a7_k1:ky7 [97]=[64448,32865,0,32,0,2]:=by rw [a7_e];rfl
theorem a7_k2:ky7 [98]=[64448,32866,0,32,0,2]:=by rw [a7_e];rfl
theorem x7_sz:NrmSz x7:=by
 refine ⟨by simp [x7],⟨by simp [x7],fun i hi=>?_⟩,by simp [x7]⟩
 have:i=0:=by simp [x7] at hi;omega
 subst this
 simp [x7]
theorem c7_sz:ColSz c7:=⟨fun i hi=>absurd hi (Nat.not_lt_zero _),by simp [c7],by simp [c7]⟩
theorem c7_at (w:World):ColAt w none 0 none 0 c7:=⟨⟨[],rfl,Sl.nil _ _,fun i hi=>absurd hi (Nat.not_lt_zero _)⟩,Sl.nil _ _,rfl,rfl,fun g h=>by cases h⟩
theorem x7_at (w:World):NrmAt ((((w.alloc (.cells #[.int .i64 97,.int .i64 769] 3)).alloc (.cells #[.int .i64 225,.slice (some ⟨w.heap.size,0,none⟩) 2 2,.string ⟨#[]⟩] 63)).alloc (.cells #[.slice none 0 0,.slice (some ⟨w.heap.size+1,0,none⟩) 1 1,.slice none 0 0] 28)).alloc (.cells #[.int .i64 3,.int .i64 1,.bool false,.bool false] 34)) none 0 (some ⟨w.heap.size+1,0,none⟩) 1 none 0 x7:=by
 have s1:Ints (w.alloc (.cells #[.int .i64 97,.int .i64 769] 3)) (some ⟨w.heap.size,0,none⟩) [97,769]:=Ints_new w [97,769] 3 rfl
 have s2:Sl ((w.alloc (.cells #[.int .i64 97,.int .i64 769] 3)).alloc (.cells #[.int .i64 225,.slice (some ⟨w.heap.size,0,none⟩) 2 2,.string ⟨#[]⟩] 63)) (some ⟨w.heap.size+1,0,none⟩) [.int .i64 225,.slice (some ⟨w.heap.size,0,none⟩) 2 2,.string ⟨#[]⟩]:=Sl_new (w.alloc (.cells #[.int .i64 97,.int .i64 769] 3)) _ _ (by simp)
 refine ⟨Sl.nil _ _,⟨[.slice (some ⟨w.heap.size,0,none⟩) 2 2],rfl,(s2.alloc _).alloc _,fun i hi hv=>?_⟩,Sl.nil _ _,rfl,rfl,rfl⟩
 have:i=0:=by simp [x7] at hi;omega
 subst this
 exact ⟨some ⟨w.heap.size,0,none⟩,2,rfl,by simp [x7],((Sl.alloc s1 _).alloc _).alloc _⟩
theorem alive7_any (w:World) (hL:Laid w):Calls Tryz.prog 7 #[] w (RetTrue w):=by
 have B0:Below w.heap.size w ((((w.alloc (.cells #[.int .i64 97,.int .i64 769] 3)).alloc (.cells #[.int .i64 225,.slice (some ⟨w.heap.size,0,none⟩) 2 2,.string ⟨#[]⟩] 63)).alloc (.cells #[.slice none 0 0,.slice (some ⟨w.heap.size+1,0,none⟩) 1 1,.slice none 0 0] 28)).alloc (.cells #[.int .i64 3,.int .i64 1,.bool false,.bool false] 34)):=((((Below.refl _ _).alloc (Nat.le_refl _) _).alloc (by simp) _).alloc (by simp <;> omega) _).alloc (by simp <;> omega) _
 have hX:Box ((((w.alloc (.cells #[.int .i64 97,.int .i64 769] 3)).alloc (.cells #[.int .i64 225,.slice (some ⟨w.heap.size,0,none⟩) 2 2,.string ⟨#[]⟩] 63)).alloc (.cells #[.slice none 0 0,.slice (some ⟨w.heap.size+1,0,none⟩) 1 1,.slice none 0 0] 28)).alloc (.cells #[.int .i64 3,.int .i64 1,.bool false,.bool false] 34)) (w.heap.size+1+1) 28 [.slice none 0 0,.slice (some ⟨w.heap.size+1,0,none⟩) 1 1,.slice none 0 0]:=bx_alloc (Box.new _ _ _ (by simp)) _
 have hY:Box ((((w.alloc (.cells #[.int .i64 97,.int .i64 769] 3)).alloc (.cells #[.int .i64 225,.slice (some ⟨w.heap.size,0,none⟩) 2 2,.string ⟨#[]⟩] 63)).alloc (.cells #[.slice none 0 0,.slice (some ⟨w.heap.size+1,0,none⟩) 1 1,.slice none 0 0] 28)).alloc (.cells #[.int .i64 3,.int .i64 1,.bool false,.bool false] 34)) (w.heap.size+1+1+1) 34 [.int .i64 3,.int .i64 1,.bool false,.bool false]:=Box.new _ _ _ (by simp)
 have hN:=x7_at w
 have W0E:∃W0,((((w.alloc (.cells #[.int .i64 97,.int .i64 769] 3)).alloc (.cells #[.int .i64 225,.slice (some ⟨w.heap.size,0,none⟩) 2 2,.string ⟨#[]⟩] 63)).alloc (.cells #[.slice none 0 0,.slice (some ⟨w.heap.size+1,0,none⟩) 1 1,.slice none 0 0] 28)).alloc (.cells #[.int .i64 3,.int .i64 1,.bool false,.bool false] 34))=W0:=⟨_,rfl⟩
 unfold RetTrue
 go_enter Tryz.func7,Tryz.ntmps7
 go_upto_region 3 with (fail)
 obtain ⟨W0,hW0⟩:=W0E
 rw [hW0] at B0 hX hY hN ⊢
 clear hW0
 have X0:=Lib.hid hX
 have Y0:=Lib.hid hY
 have BB:=Lib.hid (fun W (hb:Below W0.heap.size W0 W)=>B0.trans (hb.mono B0.size))
 have FC:=Lib.hid (fun D n k t W (hb:Below W0.heap.size W0 W) (hA:Ints W D t) (hn:t.length=n) (hz:n≤100) (hok:∀c ∈ t,iok c)=>formD_own none 0 0 (some ⟨w.heap.size+1,0,none⟩) 1 1 none 0 0 x7 D n k t W (hN.below hb) x7_sz (hL.below (BB.out W hb)) hA hn (by omega) hok)
 have SC:=Lib.hid (fun D n k s E m j t W (hb:Below W0.heap.size W0 W) (hA:Ints W D s) (hn:s.length=n) (hz:n≤100) (hok:∀c ∈ s,iok c) (hB:Ints W E t) (hm:t.length=m) (hz2:m≤100) (hok2:∀c ∈ t,iok c)=>same_any none 0 0 (some ⟨w.heap.size+1,0,none⟩) 1 1 none 0 0 x7 D n k s E m j t W (hN.below hb) x7_sz (hL.below (BB.out W hb)) hA hn (by omega) hok hB hm (by omega) hok2)
 have CC:=Lib.hid (fun D n k s E m j t W (hb:Below W0.heap.size W0 W) (hA:Ints W D s) (hn:s.length=n) (hz:n≤100) (hok:∀c ∈ s,iok c) (hB:Ints W E t) (hm:t.length=m) (hz2:m≤100) (hok2:∀c ∈ t,iok c)=>compare_any none 0 0 (some ⟨w.heap.size+1,0,none⟩) 1 1 none 0 0 x7 none 0 0 none 0 0 c7 o7 D n k s E m j t W (hN.below hb) x7_sz (hL.below (BB.out W hb)) (c7_at W) c7_sz hA hn (by omega) hok hB hm (by omega) hok2)
 have KC:=Lib.hid (fun D n k s W (hb:Below W0.heap.size W0 W) (hA:Ints W D s) (hn:s.length=n) (hz:n≤100) (hok:∀c ∈ s,iok c)=>key_own none 0 0 (some ⟨w.heap.size+1,0,none⟩) 1 1 none 0 0 x7 none 0 0 none 0 0 c7 o7 D n k s W (hN.below hb) x7_sz (hL.below (BB.out W hb)) (c7_at W) c7_sz hA hn (by omega) hok)
 have EC:=Lib.hid (fun A B n c d (l:List Int) W (h1:Ints W A l) (h2:Ints W B l) (hn:l.length=n) (hz:n≤100)=>(equal_any A B n n c d l l W h1 h2 hn hn (by omega) (by omega)).mono (R':=fun e w'=>e=.returned (.bool true)∧Below W.heap.size W w') (fun e w' ⟨h3,h4⟩=>⟨by rw [h3];simp,h4⟩))
 clear hN hX hY hL B0
 -- Form
 have n1:Ints (W0.alloc (.cells #[.int .i64 225] 3)) (some ⟨W0.heap.size,0,none⟩) [225]:=Ints_new W0 [225] 3 rfl
 have b1:Below W0.heap.size W0 (W0.alloc (.cells #[.int .i64 225] 3)):=(Below.refl _ _).alloc (Nat.le_refl _) _
 have T1:=FC.out _ 1 1 _ _ b1 n1 rfl (by omega) (by intro c hc;simp at hc;rcases hc with rfl;rfl)
 rw [a7_d1] at T1
 unfold RetOwnI at T1
 have T1':=Lib.hid T1
 clear T1 n1 FC
 have g0:=X0.out.cell (i:=0) rfl
 have g1:=X0.out.cell (i:=1) rfl
 have g2:=X0.out.cell (i:=2) rfl
 go_wp2_with fail
 with_reducible refine T1'.out.mono ?_
 rintro e V1 ⟨A1,k1,rfl,ho1,hb1⟩
 have v1:=b1.trans (hb1.mono b1.size)
 clear T1' hb1 b1 g0 g1 g2
 have z1:Ints (V1.alloc (.cells #[.int .i64 97,.int .i64 769] 3)) (some ⟨V1.heap.size,0,none⟩) [97,769]:=Ints_new V1 [97,769] 3 rfl
 have zb1:Below W0.heap.size W0 (V1.alloc (.cells #[.int .i64 97,.int .i64 769] 3)):=v1.alloc v1.size _
 have E1:=Lib.hid (EC.out A1 _ 2 k1 2 [97,769] _ (Sl.alloc (Sl.of_own ho1) _) z1 rfl (by omega))
 clear z1 ho1
 dsimp only [List.length_cons,List.length_nil,Nat.reduceAdd]
 go_wp2_with fail
 with_reducible refine E1.out.mono ?_
 rintro e V2 ⟨rfl,hb2⟩
 have v2:=zb1.trans (hb2.mono zb1.size)
 clear hb2 zb1 E1 v1
 -- Same
 have n2:Ints ((V2.alloc (.cells #[.int .i64 225] 3)).alloc (.cells #[.int .i64 97,.int .i64 769] 3)) (some ⟨V2.heap.size,0,none⟩) [225]:=Sl.alloc (Ints_new V2 [225] 3 rfl) _
 have n3:Ints ((V2.alloc (.cells #[.int .i64 225] 3)).alloc (.cells #[.int .i64 97,.int .i64 769] 3)) (some ⟨V2.heap.size+1,0,none⟩) [97,769]:=Ints_new _ [97,769] 3 (by simp)
 have b3:Below W0.heap.size W0 ((V2.alloc (.cells #[.int .i64 225] 3)).alloc (.cells #[.int .i64 97,.int .i64 769] 3)):=(v2.alloc v2.size _).alloc (by have:=v2.size;simp;omega) _
 have T2:=SC.out _ 1 1 _ _ 2 2 _ _ b3 n2 rfl (by omega) (by intro c hc;simp at hc;rcases hc with rfl;rfl) n3 rfl (by omega) (by intro c hc;simp at hc;rcases hc with rfl | rfl <;> rfl)
 rw [a7_d1,a7_d2,show decide (([97,769]:List Int)=[97,769])=true from by rfl] at T2
 unfold RetBool at T2
 have T2':=Lib.hid T2
 clear T2 n2 n3 SC
 have g0:=(X0.out.below v2 X0.out.lt).cell (i:=0) rfl
 have g1:=(X0.out.below v2 X0.out.lt).cell (i:=1) rfl
 have g2:=(X0.out.below v2 X0.out.lt).cell (i:=2) rfl
 go_wp2_with fail
 with_reducible refine T2'.out.mono ?_
 rintro e V3 ⟨rfl,hb3⟩
 have v3:=b3.trans (hb3.mono b3.size)
 clear hb3 b3 T2' g0 g1 g2 v2
 -- Compare
 have n2:Ints ((V3.alloc (.cells #[.int .i64 97] 3)).alloc (.cells #[.int .i64 98] 3)) (some ⟨V3.heap.size,0,none⟩) [97]:=Sl.alloc (Ints_new V3 [97] 3 rfl) _
 have n3:Ints ((V3.alloc (.cells #[.int .i64 97] 3)).alloc (.cells #[.int .i64 98] 3)) (some ⟨V3.heap.size+1,0,none⟩) [98]:=Ints_new _ [98] 3 (by simp)
 have b3:Below W0.heap.size W0 ((V3.alloc (.cells #[.int .i64 97] 3)).alloc (.cells #[.int .i64 98] 3)):=(v3.alloc v3.size _).alloc (by have:=v3.size;simp;omega) _
 have T3:=CC.out _ 1 1 _ _ 1 1 _ _ b3 n2 rfl (by omega) (by intro c hc;simp at hc;rcases hc with rfl;rfl) n3 rfl (by omega) (by intro c hc;simp at hc;rcases hc with rfl;rfl)
 rw [show keyN (optD o7) (elsN x7 c7 [97]) (dtx x7 false [97])=_ from a7_k1,show keyN (optD o7) (elsN x7 c7 [98]) (dtx x7 false [98])=_ from a7_k2,show cmpL [64448,32865,0,32,0,2] [64448,32866,0,32,0,2]=-1 from by rfl] at T3
 unfold RetInt at T3
 dsimp only [c7,o7] at T3
 have T3':=Lib.hid T3
 clear T3 n2 n3 CC
 have g0:=(X0.out.below v3 X0.out.lt).cell (i:=0) rfl
 have g1:=(X0.out.below v3 X0.out.lt).cell (i:=1) rfl
 have g2:=(X0.out.below v3 X0.out.lt).cell (i:=2) rfl
 have f0:=(Y0.out.below v3 Y0.out.lt).cell (i:=0) rfl
 have f1:=(Y0.out.below v3 Y0.out.lt).cell (i:=1) rfl
 have f2:=(Y0.out.below v3 Y0.out.lt).cell (i:=2) rfl
 have f3:=(Y0.out.below v3 Y0.out.lt).cell (i:=3) rfl
 go_wp2_with fail
 with_reducible refine T3'.out.mono ?_
 rintro e V4 ⟨rfl,hb4⟩
 have v4:=b3.trans (hb4.mono b3.size)
 clear hb4 b3 T3' g0 g1 g2 f0 f1 f2 f3 v3
 -- Key
 have n2:Ints (V4.alloc (.cells #[.int .i64 97] 3)) (some ⟨V4.heap.size,0,none⟩) [97]:=Ints_new V4 [97] 3 rfl
 have b4:Below W0.heap.size W0 (V4.alloc (.cells #[.int .i64 97] 3)):=v4.alloc v4.size _
 have T4:=KC.out _ 1 1 _ _ b4 n2 rfl (by omega) (by intro c hc;simp at hc;rcases hc with rfl;rfl)
 rw [show keyN (optD o7) (elsN x7 c7 [97]) (dtx x7 false [97])=_ from a7_k1] at T4
 unfold RetOwnI colV at T4
 dsimp only [c7,o7] at T4
 have T4':=Lib.hid T4
 clear T4 n2 KC
 have g0:=(X0.out.below v4 X0.out.lt).cell (i:=0) rfl
 have g1:=(X0.out.below v4 X0.out.lt).cell (i:=1) rfl
 have g2:=(X0.out.below v4 X0.out.lt).cell (i:=2) rfl
 have f0:=(Y0.out.below v4 Y0.out.lt).cell (i:=0) rfl
 have f1:=(Y0.out.below v4 Y0.out.lt).cell (i:=1) rfl
 have f2:=(Y0.out.below v4 Y0.out.lt).cell (i:=2) rfl
 have f3:=(Y0.out.below v4 Y0.out.lt).cell (i:=3) rfl
 go_wp2_with fail
 with_reducible refine T4'.out.mono ?_
 rintro e V5 ⟨A5,k5,rfl,_,hb5⟩
 have v5:=BB.out _ (b4.trans (hb5.mono b4.size))
 clear hb5 b4 T4' g0 g1 g2 f0 f1 f2 f3 v4
 dsimp only [List.length_cons,List.length_nil,Nat.reduceAdd]
 go_wp2_with fail
 go_ret
 exact ⟨rfl,v5⟩
end Go.Proofs.YtijgbonhjcblcaaGreatDoor
