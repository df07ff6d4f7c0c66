import Derived.Test.YtpfbnikbebccjaaGreatDoorU00
import Derived.Test.YtpfbnikbebccjaaGreatDoorU01
import Derived.Test.YtpfbnikbebccjaaGreatDoorU03
import Derived.Test.YtpfbnikbebccjaaGreatDoorU04
import Derived.Test.YtpfbnikbebccjaaGreatDoorU10
set_option maxRecDepth 100000
set_option maxHeartbeats 51200000
namespace Go.Proofs.YtpfbnikbebccjaaGreatDoor
open Option renaming none->N,some->Z
open Value renaming int->I,slice->H
open IntKind renaming i64->J
open Go.Proofs.Tryz
section
open Go.RowKit Go.Maps Go.WideMaps
def fZ(c:Col):Bool:=decide (c.ents.length<=12)&&decide (c.grps.length<=8)&&c.ents.all (fun x=>decide (x.codes.length<=10)&&decide (x.elems.length<=20))
theorem CA{c:Col}(h:fZ c=true):bW c/\c.grps.length<=8/\c.ents.length<=12/\∀x∈c.ents,x.codes.length<=10/\x.elems.length<=20:=by
 unfold fZ at h;simp only[Bool.and_eq_true,decide_eq_true_eq,List.all_eq_true]at h;obtain⟨⟨h1,h2⟩,h3⟩:=h;refine⟨⟨fun i hi=>?_,by omega,by omega⟩,h2,h1,h3⟩;have:=h3 _ (List.getElem_mem hi);omega
section
variable {c:Col}
theorem ZL(h:¬c.ents.length<=12):fZ c=false:=by simp[fZ];omega
theorem ZM(h:¬c.grps.length<=8):fZ c=false:=by simp[fZ];omega
theorem ZO{k:Nat}(hk:k<c.ents.length)(h:¬(c.ents[k].codes.length<=10/\c.ents[k].elems.length<=20)):fZ c=false:=by
 cases hs:fZ c with
 |false=>rfl
 |true=>exact absurd ((CA hs).2.2.2 _ (List.getElem_mem hk)) h
theorem ZP(h1:c.ents.length<=12)(h2:c.grps.length<=8)(h:∀t,(ht:t<c.ents.length)->c.ents[t].codes.length<=10/\c.ents[t].elems.length<=20):fZ c=true:=by
 unfold fZ;simp only[Bool.and_eq_true,decide_eq_true_eq,List.all_eq_true];refine⟨⟨h1,h2⟩,fun x hx=>?_⟩;obtain⟨t,ht,rfl⟩:=List.getElem_of_mem hx;exact h t ht
end
theorem ZQ(A:Oa)(n a:Nat)(B:Oa)(m b:Nat)(c:Col)(w:Wv)(h:aU w A n B m c):
  Calls prog 34 #[aQ A n a B m b c] w fun e w'=>e=.returned (.bool (fZ c))/\By w w':=by
 have B0:By w (w.alloc (.cells #[H A n a,H B m b,I J c.base,I J c.second,I J c.third] 32)):=ba _ _;have k0:(w.alloc (.cells #[H A n a,H B m b,I J c.base,I J c.second,I J c.third] 32)).cell? ⟨w.heap.size,0,N⟩=Z (H A n a):=by simp
 have k1:(w.alloc (.cells #[H A n a,H B m b,I J c.base,I J c.second,I J c.third] 32)).cell? ⟨w.heap.size,1,N⟩=Z (H B m b):=by simp
 have W0E:∃W0,w.alloc (.cells #[H A n a,H B m b,I J c.base,I J c.second,I J c.third] 32)=W0:=⟨_,rfl⟩;have S1:=G (ZL (c:=c));have S2:=G (ZM (c:=c));have S3:=G (fun k=>ZO (c:=c) (k:=k));have S4:=G (ZP (c:=c));have HE:=G h.ents;have hn:=h.hn;have hm:=h.hm;unfold aQ;generalize fZ c=r at *;generalize c.base=cb at *;generalize c.second=cs at *;generalize c.third=ct at *;generalize c.ents=es at *;generalize c.grps=gs at *;subst hn;subst hm;clear h;go_enter func34,ntmps34;by_cases h1:es.length<=12
 ·have q1:decide ((12:Int)<(es.length:Int))=false:=by simp;omega
  by_cases h2:gs.length<=8
  ·have q2:decide ((8:Int)<(gs.length:Int))=false:=by simp;omega
   clear S1 S2;go_wp2_with fail;obtain⟨W0,hW0⟩:=W0E;rw[hW0]at B0 k0 k1|-;clear hW0 k1;have HE0:=G (HE.out.below B0);go_loopw [3] (fun u wr=>∃i:Nat,i<=es.length/\u=I J i/\(∀t,(ht:t<es.length)->t<i->es[t].codes.length<=10/\es[t].elems.length<=20)/\wr=W0) (fun u _=>es.length-(intOf u).toNat)
   case atStart=>exact⟨0,Nat.zero_le _,rfl,fun t _ h=>by omega,rfl⟩
   obtain⟨i,hi,rfl,hne,rfl⟩:=hrel;have HNE:=G hne;clear hne;by_cases hlt:i<es.length
   ·obtain⟨b1,o1,rfl,hbl,hcell⟩:=HE0.out.at hlt
    obtain⟨C,c',E,d,c1,c2,_,_⟩:=hcell i hlt;have HN:=G (fun h=>cW (P:=fun x=>x.codes.length<=10/\x.elems.length<=20) hlt HNE.out h);have HY:=G (fun h=>S3.out i hlt h);clear hcell S3 S4;generalize es[i]=ei at *;obtain⟨ec,ee⟩:=ei;dsimp only at *;by_cases h3:ec.length<=10
    ·have q3:decide ((10:Int)<(ec.length:Int))=false:=by simp;omega
     by_cases h4:ee.length<=20
     ·have q4:decide ((20:Int)<(ee.length:Int))=false:=by simp;omega
      have HQ:=G (HN.out ⟨h3,h4⟩);clear HN HY;go_wp2_with fail;go_roundw
      case rel=>exact⟨i+1,by omega,by go_num,HQ.out,trivial⟩
      simp[intOf];omega
     have q4:decide ((20:Int)<(ee.length:Int))=true:=by simp;omega
     obtain rfl:=HY.out (fun h=>h4 h.2);clear HN HY;go_wp2_with fail;go_ret;exact⟨rfl,B0⟩
    have q3:decide ((10:Int)<(ec.length:Int))=true:=by simp;omega
    obtain rfl:=HY.out (fun h=>h3 h.1);clear HN HY;go_wp2_with fail;go_ret;exact⟨rfl,B0⟩
   obtain rfl:=S4.out h1 h2 (fun t ht=>HNE.out t ht (by omega));go_wp2_with fail;go_ret;exact⟨rfl,B0⟩
  have q2:decide ((8:Int)<(gs.length:Int))=true:=by simp;omega
  obtain rfl:=S2.out h2;clear S1 S2 S3 S4;go_wp2_with fail;go_ret;exact⟨rfl,B0⟩
 have q1:decide ((12:Int)<(es.length:Int))=true:=by simp;omega
 obtain rfl:=S1.out h1;clear S1 S2 S3 S4;go_wp2_with fail;go_ret;exact⟨rfl,B0⟩
end
section
open Go.RowKit
def gD(o:Opt):Int:=if o.st<1\/4<o.st then 1 else if o.va=1\/o.va=2\/o.va=3 then 0 else 8
theorem zW(o:Opt):gD o=0 ↔ iR o=true:=by
 unfold gD iR;simp;split
 ·omega
 split<;>omega
theorem BU(o:Opt)(w:Wv):Calls prog 37 #[.agg #[I J o.st,I J o.va,.bool o.bk,.bool o.idn]] w (fun e w'=>e=.returned (I J (gD o))/\By w w'):=by
 obtain⟨st,va,bk,idn⟩:=o;have HE:=U (gD ⟨st,va,bk,idn⟩=if st<1\/4<st then 1 else if va=1\/va=2\/va=3 then 0 else 8) rfl;generalize gD ⟨st,va,bk,idn⟩=r at *;have B0:By w (w.alloc (.cells #[I J st,I J va,.bool bk,.bool idn] 34)):=ba _ _;dsimp only;go_enter func37,ntmps37;by_cases h1:st<1
 ·have d1:decide (st<1)=true:=by simpa using h1
  obtain rfl:r=1:=by rw[HE.out,if_pos (.inl h1)]
  clear HE;go_wp2_with fail;go_ret;exact⟨rfl,B0⟩
 have d1:decide (st<1)=false:=by simpa using h1
 by_cases h2:4<st
 ·have d2:decide (4<st)=true:=by simpa using h2
  obtain rfl:r=1:=by rw[HE.out,if_pos (.inr h2)]
  clear HE;go_wp2_with fail;go_ret;exact⟨rfl,B0⟩
 have d2:decide (4<st)=false:=by simpa using h2
 have HF:=U (r=if va=1\/va=2\/va=3 then 0 else 8) (by rw[HE.out,if_neg (by omega)]);clear HE;by_cases h3:va=1
 ·have d3:(va==1)=true:=by simpa using h3
  obtain rfl:r=0:=by rw[HF.out,if_pos (.inl h3)]
  clear HF h3;go_wp2_with fail;go_ret;exact⟨rfl,B0⟩
 have d3:(va==1)=false:=by simpa using h3
 by_cases h4:va=2
 ·have d4:(va==2)=true:=by simpa using h4
  obtain rfl:r=0:=by rw[HF.out,if_pos (.inr (.inl h4))]
  clear HF h3 h4;go_wp2_with fail;go_ret;exact⟨rfl,B0⟩
 have d4:(va==2)=false:=by simpa using h4
 by_cases h5:va=3
 ·have d5:(va==3)=true:=by simpa using h5
  obtain rfl:r=0:=by rw[HF.out,if_pos (.inr (.inr h5))]
  clear HF h3 h4 h5;go_wp2_with fail;go_ret;exact⟨rfl,B0⟩
 have d5:(va==3)=false:=by simpa using h5
 obtain rfl:r=8:=by rw[HF.out,if_neg (by omega)]
 clear HF h3 h4 h5;go_wp2_with fail;go_ret;exact⟨rfl,B0⟩
def Blk(w:Wv)(b:Nat)(e:TypeId)(pre cs post:Lv):Prop:=w.heap[b]?=Z (.cells (pre++cs++post).toArray e (0,0))
def Row(w:Wv)(b off:Nat)(e:TypeId)(pre post:Lv)(d:Li):Prop:=pre.length=off/\Blk w b e pre (d.map (Value.int .i64)) post
section
variable {w w':Wv}{b off:Nat}{e:TypeId}{pre post:Lv}{d:Li}
theorem Blk.lt{cs:Lv}(h:Blk w b e pre cs post):b<w.heap.size:=(Array.getElem?_eq_some_iff.1 h).1
theorem Row.lt(h:Row w b off e pre post d):b<w.heap.size:=Blk.lt h.2
theorem Row.cell(h:Row w b off e pre post d){i:Nat}{x:Int}(hi:d[i]?=Z x):w.cell? ⟨b,off+i,N⟩=Z (I J x):=by
 rw[cell_of_row w b (off+i) _ e (0,0) h.2];have hl:i<d.length:=(List.getElem?_eq_some_iff.1 hi).1;rw[List.getElem?_toArray,List.append_assoc,List.getElem?_append_right (by have:=h.1;omega),List.getElem?_append_left (by simp;have:=h.1;omega),List.getElem?_map];rw[show off+i-pre.length=i by have:=h.1;omega,hi];rfl
theorem Row.frozen(h:Row w b off e pre post d)(i:Nat):w.frozen? ⟨b,i,N⟩=false:=by
 have h2:=h.2;unfold Blk at h2;simp[World.frozen?,h2]
theorem Row.set(h:Row w b off e pre post d){i:Nat}(hi:i<d.length)(v:Int):Row (w.setCell ⟨b,off+i,N⟩ (I J v)) b off e pre post (d.set i v):=by
 refine⟨h.1,?_⟩;have h2:=h.2;have h1:=h.1;unfold Blk at h2|-;simp only[World.setCell,Array.getElem?_modify,h2];simp only[if_true,Option.map_some,Option.some.injEq,Obj.cells.injEq,and_true];apply Array.ext';simp only[Option.isSome_none,Bool.false_eq_true,if_false,Array.toList_setIfInBounds,List.map_set];rw[List.append_assoc,List.set_append_right _ _ (by omega),List.set_append_left _ _ (by simp;omega),show off+i-pre.length=i by omega,<-List.append_assoc]
theorem Row.keep(h:Row w b off e pre post d)(hb:w'.heap[b]?=w.heap[b]?):Row w' b off e pre post d:=⟨h.1,hb.trans h.2⟩
theorem Row.drewN(h:Row w b off e pre post d)(n:Nat):Row (w.drewN n) b off e pre post d:=h
theorem Row.drew(h:Row w b off e pre post d):Row w.drew b off e pre post d:=h
theorem Row.below(h:Row w b off e pre post d)(hb:By w w'):Row w' b off e pre post d:=h.keep (hb.block b h.lt)
theorem aO(w:Wv)(r:Option Nat):w.grownBy w r:=⟨rfl,rfl,rfl,Nat.le_refl _,fun _ _ _=>rfl⟩
theorem bF{a c:Wv}{r:Option Nat}(h:a.grownBy w r)(g:w.grownBy c r):a.grownBy c r:=
 ⟨g.os.trans h.os,g.tape.trans h.tape,g.output.trans h.output,Nat.le_trans h.size g.size,fun k hk hne=>(g.block k (Nat.lt_of_lt_of_le hk h.size) hne).trans (h.block k hk hne)⟩
theorem cT{a:Wv}{r:Option Nat}(h:a.grownBy w r)(g:By w w'):a.grownBy w' r:=
 bF h ⟨g.os,g.tape,g.output,g.size,fun k hk _=>g.block k hk⟩
theorem xT{a:Wv}{r:Option Nat}(h:a.grownBy w r)(n:Nat):a.grownBy (w.drewN n) r:=cT h (jR w n)
theorem c_{a:Wv}{r:Option Nat}(h:a.grownBy w r):a.grownBy w.drew r:=cT h (jR w 1)
theorem kM{a:Wv}(h:a.grownBy w (Z b))(i:Nat)(v:Value):a.grownBy (w.setCell ⟨b,i,N⟩ v) (Z b):=
 bF h ⟨rfl,rfl,rfl,by simp[World.setCell],fun k _ hne=>Below.heap_setCell _ _ _ _ (by rintro rfl;exact hne rfl)⟩
end
end
section
open Go.RowKit Go.Maps Go.WideMaps
theorem pZ{fn:Func}(hr:fn.results=#[.cell 2 34])(tmps:Array Value)(w:Wv){b:Nat}{v0 v1 v2 v3:Value}(ha:tmps.getD 2 undef=.pointer (Z ⟨b,0,N⟩))
  (c0:w.cell? ⟨b,0,N⟩=Z v0) (c1:w.cell? ⟨b,1,N⟩=Z v1) (c2:w.cell? ⟨b,2,N⟩=Z v2) (c3:w.cell? ⟨b,3,N⟩=Z v3) :
  (results fn tmps).run prog w=.ok (.agg #[v0,v1,v2,v3]) w:=by
 unfold results;rw[hr];simp only[ha,List.mapM_toArray,List.mapM_cons,List.mapM_nil,asAddr];go_simp
theorem fX{fn:Func}(hr:fn.results=#[.cell 4 173])(tmps:Array Value)(w:Wv){b:Nat}{v0 v1 v2 v3:Value}(ha:tmps.getD 4 undef=.pointer (Z ⟨b,0,N⟩))
  (c0:w.cell? ⟨b,0,N⟩=Z v0) (c1:w.cell? ⟨b,1,N⟩=Z v1) (c2:w.cell? ⟨b,2,N⟩=Z v2) (c3:w.cell? ⟨b,3,N⟩=Z v3) :
  (results fn tmps).run prog w=.ok (.agg #[v0,v1,v2,v3]) w:=by
 unfold results;rw[hr];simp only[ha,List.mapM_toArray,List.mapM_cons,List.mapM_nil,asAddr];go_simp
theorem wV(o:Opt)(w:Wv):Calls prog 118 #[.agg #[I J o.st,I J o.va,.bool o.bk,.bool o.idn]] w (fun e w'=>e=.returned (.agg #[I J (aN o).st,I J (aN o).va,.bool (aN o).bk,.bool (aN o).idn])/\By w w'):=by
 have CK:=G (fun W=>BU o W);have OE:=G (zW o);have O1:=U (iR o=true->aN o=o) (fun h=>if_pos h);have O0:=G (show¬iR o=true->aN o=⟨3,1,false,false⟩from fun h=>if_neg h);generalize gD o=er at *;generalize iR o=ob at *;generalize aN o=od at *;obtain⟨st,va,bk,idn⟩:=o;dsimp only at *;have B0:By w ((w.alloc (.cells #[I J st,I J va,.bool bk,.bool idn] 34)).alloc (.cells #[I J 0,I J 0,.bool false,.bool false] 34)):=(ba _ _).alloc (by simp) _;have X0:Box ((w.alloc (.cells #[I J st,I J va,.bool bk,.bool idn] 34)).alloc (.cells #[I J 0,I J 0,.bool false,.bool false] 34)) w.heap.size 34 [I J st,I J va,.bool bk,.bool idn]:=(Box.new w 34 [I J st,I J va,.bool bk,.bool idn] rfl).below (B:=w.heap.size+1) ((Below.refl _ _).alloc (by simp) _) (by omega);have X1:Box ((w.alloc (.cells #[I J st,I J va,.bool bk,.bool idn] 34)).alloc (.cells #[I J 0,I J 0,.bool false,.bool false] 34)) (w.heap.size+1) 34 [I J 0,I J 0,.bool false,.bool false]:=Box.new _ _ _ (by simp);have W0E:∃W0,((w.alloc (.cells #[I J st,I J va,.bool bk,.bool idn] 34)).alloc (.cells #[I J 0,I J 0,.bool false,.bool false] 34))=W0:=⟨_,rfl⟩;go_enter func118,ntmps118;go_wp2_with fail;obtain⟨W0,hW0⟩:=W0E;rw[hW0]at B0 X0 X1|-;clear hW0;have s0:=X0.lt;have s1:=X1.lt;have c0:=X0.c 0 rfl;have c1:=X0.c 1 rfl;have c2:=X0.c 2 rfl;have c3:=X0.c 3 rfl;go_wp2_with fail;with_reducible refine(CK.out _).mono ?_
 rintro e W1 ⟨rfl,hb1⟩;have Y0:=X0.below hb1 s0;have Y1:=X1.below hb1 s1;have B1:=B0.trans (hb1.mono B0.size);clear c0 c1 c2 c3 X0 X1 B0 hb1 CK;have c0:=Y0.c 0 rfl;have c1:=Y0.c 1 rfl;have c2:=Y0.c 2 rfl;have c3:=Y0.c 3 rfl;have d0:=Y1.c 0 rfl;have d1:=Y1.c 1 rfl;have d2:=Y1.c 2 rfl;have d3:=Y1.c 3 rfl;have f0:=Y1.free 0;have f1:=Y1.free 1;have f2:=Y1.free 2;have f3:=Y1.free 3;have HB:=G (fun(u0 u1 u2 u3:Value)=>show By w ((((W1.setCell ⟨w.heap.size+1,0,N⟩ u0).setCell ⟨w.heap.size+1,1,N⟩ u1).setCell ⟨w.heap.size+1,2,N⟩ u2).setCell ⟨w.heap.size+1,3,N⟩ u3)from(((B1.setCell (by simp) _).setCell (by simp) _).setCell (by simp) _).setCell (by simp) _);by_cases h0:er=0
 ·have HO:=G (O1.out (OE.out.1 h0))
  subst h0;clear O1 O0 OE;go_wp2_with fail;(try simp only[Exit.inBlock,Exit.then]);refine bodyPost_ret (pZ rfl _ _ (b:=w.heap.size+1) (v0:=I J st) (v1:=I J va) (v2:=.bool bk) (v3:=.bool idn) rfl (by go_simp) (by go_simp) (by go_simp) (by go_simp)) rfl ?_;exact⟨by rw[HO.out],HB.out _ _ _ _⟩
 have HO:=G (O0.out (fun g=>h0 (OE.out.2 g)));have h1:(er !=0)=true:=by simpa using h0
 clear O1 O0 OE h0;go_wp2_with fail;(try simp only[Exit.inBlock,Exit.then]);refine bodyPost_ret (pZ rfl _ _ (b:=w.heap.size+1) (v0:=I J 3) (v1:=I J 1) (v2:=.bool false) (v3:=.bool false) rfl (by go_simp) (by go_simp) (by go_simp) (by go_simp)) rfl ?_;exact⟨by rw[HO.out],HB.out _ _ _ _⟩
def DX(s:Nat):Value:=.func (.func 166) #[] #[.pointer (Z ⟨s,0,N⟩),.pointer (Z ⟨s+1,0,N⟩)]
structure gA(w:Wv)(s:Nat)(va:Int)(a:Bool):Prop where
 b0:Box w s 3 [I J va]
 b1:Box w (s+1) 4 [.bool a]
theorem gA.below{w w':Wv}{s:Nat}{va:Int}{a:Bool}(h:gA w s va a)(hb:By w w'):gA w' s va a:=⟨h.b0.below hb h.b0.lt,h.b1.below hb h.b1.lt⟩
def uZ(va:Int)(w:Wv)(e:Ending)(w':Wv):Prop:=e=.returned (DX w.heap.size)/\gA w' w.heap.size va false/\By w w'
theorem zAy(va:Int)(w:Wv):Calls prog 143 #[I J va] w (uZ va w):=by
 have B0:By w ((w.alloc (.cells #[I J va] 3)).alloc (.cells #[.bool false] 4)):=(ba _ _).alloc (by simp) _;have X0:Box ((w.alloc (.cells #[I J va] 3)).alloc (.cells #[.bool false] 4)) w.heap.size 3 [I J va]:=(Box.new w 3 [I J va] rfl).below (B:=w.heap.size+1) ((Below.refl _ _).alloc (by simp) _) (by omega);have X1:Box ((w.alloc (.cells #[I J va] 3)).alloc (.cells #[.bool false] 4)) (w.heap.size+1) 4 [.bool false]:=Box.new _ _ _ (by simp);go_enter func143,ntmps143;go_wp2_with fail;go_ret
 first
  |exact⟨rfl,⟨X0,X1⟩,B0⟩
  |exact⟨rfl,⟨X0,X1.set 0 _⟩,B0.setCell (by simp) _⟩
theorem eX{a w:Wv}{r:Option Nat}(h:a.grownBy w r)(o:Obj):a.grownBy (w.alloc o) r:=cT h (ba _ _)
theorem fJ{a w:Wv}{r:Option Nat}(h:a.grownBy w r)(p:Addr)(hp:a.heap.size<=p.block)(v:Value):a.grownBy (w.setCell p v) r:=
 ⟨h.os,h.tape,h.output,by simp[World.setCell];exact h.size,fun k hk hne=>(Below.heap_setCell w p v k (by omega)).trans (h.block k hk hne)⟩
theorem bJ{a w:Wv}{p:Addr}(h:a.grownBy w (Z p.block))(v:Value):a.grownBy (w.setCell p v) (Z p.block):=bF h (dU _ _ _)
theorem aS{w:Wv}{b:Nat}{t:TypeId}{cs:Lv}(h:Box w b t cs)(o:Obj):Box (w.alloc o) b t cs:=h.below (ba _ _) h.lt
theorem bG{w:Wv}{b:Nat}{t:TypeId}{cs:Lv}(h:Box w b t cs)(p:Addr)(hp:b≠p.block)(v:Value):Box (w.setCell p v) b t cs:=(Below.heap_setCell w p v b (fun e=>hp e)).trans h
theorem fY{P:Program}(w:Wv)(d:Nat)(t e:TypeId)(k:IntKind)(i:TypeInfo)(ht:P.underlying t=Z (.array 4 e))(he:P.underlying e=Z (.int k))(hi:P.info? e=Z i)(hs:i.size=1)(a b c f a' b' c' f':Int):
  (Op.equalIn (d+2) t (.agg #[.int k a,.int k b,.int k c,.int k f]) (.agg #[.int k a',.int k b',.int k c',.int k f'])).run P w=.ok (a==a'&&b==b'&&c==c'&&f==f') w:=by
 have e0:∀W,(Op.equalIn (d+1) e (.int k a) (.int k a')).run P W=.ok (a==a') W:=fun W=>run_equalIn_int W d e k k a a' he
 have e1:∀W,(Op.equalIn (d+1) e (.int k b) (.int k b')).run P W=.ok (b==b') W:=fun W=>run_equalIn_int W d e k k b b' he
 have e2:∀W,(Op.equalIn (d+1) e (.int k c) (.int k c')).run P W=.ok (c==c') W:=fun W=>run_equalIn_int W d e k k c c' he
 have e3:∀W,(Op.equalIn (d+1) e (.int k f) (.int k f')).run P W=.ok (f==f') W:=fun W=>run_equalIn_int W d e k k f f' he
 have p0:=fun(xs:Array Value) (v:Value)=>lR (P:=P) w e k he xs 0 v
 have p1:=fun(xs:Array Value) (v:Value)=>lR (P:=P) w e k he xs 1 v
 have p2:=fun(xs:Array Value) (v:Value)=>lR (P:=P) w e k he xs 2 v
 have p3:=fun(xs:Array Value) (v:Value)=>lR (P:=P) w e k he xs 3 v
 rw[Op.equalIn];simp only[Sem.run_bind,run_underlying ht,Result.andThen_ok,sizeOf,typeInfo,Sem.run_pure];simp[Std.Legacy.Range.forIn_eq_forIn_range',List.range',e0,e1,e2,e3,p0,p1,p2,p3,hi,hs];by_cases h1:a=a'<;>by_cases h2:b=b'<;>by_cases h3:c=c'<;>by_cases h4:f=f'<;>simp[h1,h2,h3,h4]
structure vA(va:Int)(a:Bool)(x:Elt)(bf:Nat)(w:Wv)(e:Ending)(w':Wv):Prop where
 ret:e=.returned (.agg #[I J (wtE va (aC a x) x 0),I J (wtE va (aC a x) x 1),I J (wtE va (aC a x) x 2),I J (wtE va (aC a x) x 3)])
 box:Box w' bf 4 [.bool (if va=1 then a else aC a x)]
 gr:w.grownBy w' (Z bf)
theorem zAV(p s t:Int)(v:Bool)(va:Int)(a:Bool)(bv bf:Nat)(w:Wv)(hv:Box w bv 3 [I J va])(hf:Box w bf 4 [.bool a])(hz:p=0/\s=0/\t=0)(h1:va=1):
  Calls prog 166 #[.agg #[I J p,I J s,I J t,.bool v],.pointer (Z ⟨bv,0,N⟩),.pointer (Z ⟨bf,0,N⟩)] w (fun e w'=>e=.returned (.agg #[I J 0,I J 0,I J 0,I J 0])/\Box w' bf 4 [.bool a]/\w.grownBy w' (Z bf)):=by
 have cv:=hv.c 0 rfl;have cf:=hf.c 0 rfl;have ff:=hf.free 0;have lv:=hv.lt;have lf:=hf.lt;have lv1:bv<w.heap.size+1:=by omega
 have lv2:bv<w.heap.size+1+1:=by omega
 have lf1:bf<w.heap.size+1:=by omega
 have lf2:bf<w.heap.size+1+1:=by omega
 have m1:¬bf=w.heap.size:=by omega
 have m2:¬bf=w.heap.size+1:=by omega
 have m3:¬bf=w.heap.size+1+1:=by omega
 have l1:¬w.heap.size=bf:=by omega
 have l2:¬w.heap.size+1=bf:=by omega
 have l3:¬w.heap.size+1+1=bf:=by omega
 obtain⟨i0,hi,hz0,hz1,hz2⟩:=info_parts aM;have q4:=fun W x y z f x' y' z' f'=>fY (P:=prog) W 9998 173 3 .i64 i0 underlying173 underlying3 hi hz1 x y z f x' y' z' f'
 have x1:¬bv=bf:=by
  intro e;subst e;rw[cv]at cf;cases cf
 have x2:¬bf=bv:=fun e=>x1 e.symm
 have HF:=G hf;clear hi hz0 hz1 hz2 hv hf;subst h1;obtain⟨rfl,rfl,rfl⟩:=hz;go_enter func166,ntmps166;go_wp2_with fail;(try simp only[Exit.inBlock,Exit.then]);refine bodyPost_ret (fX rfl _ _ (b:=w.heap.size+1) rfl (by go_simp;try rfl) (by go_simp;try rfl) (by go_simp;try rfl) (by go_simp;try rfl)) rfl ?_;refine⟨rfl,?_,?_⟩
 ·repeat(first|exact HF.out|exact Box.set HF.out 0 _|refine aS ?_ _|refine bG ?_ _ (by assumption) _|refine Box.set (cs:=[_]) ?_ 0 _)
 repeat(first|exact aO _ _|refine eX ?_ _|refine bJ (p:=⟨bf,0,N⟩) ?_ _|refine fJ ?_ _ (by simp<;>omega) _)
theorem zAW(p s t:Int)(v:Bool)(va:Int)(a:Bool)(bv bf:Nat)(w:Wv)(hv:Box w bv 3 [I J va])(hf:Box w bf 4 [.bool a])(hz:¬(p=0/\s=0/\t=0))(h1:va=1):
  Calls prog 166 #[.agg #[I J p,I J s,I J t,.bool v],.pointer (Z ⟨bv,0,N⟩),.pointer (Z ⟨bf,0,N⟩)] w (fun e w'=>e=.returned (.agg #[I J p,I J s,I J t,I J 65535])/\Box w' bf 4 [.bool a]/\w.grownBy w' (Z bf)):=by
 have cv:=hv.c 0 rfl;have cf:=hf.c 0 rfl;have ff:=hf.free 0;have lv:=hv.lt;have lf:=hf.lt;have lv1:bv<w.heap.size+1:=by omega
 have lv2:bv<w.heap.size+1+1:=by omega
 have lf1:bf<w.heap.size+1:=by omega
 have lf2:bf<w.heap.size+1+1:=by omega
 have m1:¬bf=w.heap.size:=by omega
 have m2:¬bf=w.heap.size+1:=by omega
 have m3:¬bf=w.heap.size+1+1:=by omega
 have l1:¬w.heap.size=bf:=by omega
 have l2:¬w.heap.size+1=bf:=by omega
 have l3:¬w.heap.size+1+1=bf:=by omega
 obtain⟨i0,hi,hz0,hz1,hz2⟩:=info_parts aM;have q4:=fun W x y z f x' y' z' f'=>fY (P:=prog) W 9998 173 3 .i64 i0 underlying173 underlying3 hi hz1 x y z f x' y' z' f'
 have x1:¬bv=bf:=by
  intro e;subst e;rw[cv]at cf;cases cf
 have x2:¬bf=bv:=fun e=>x1 e.symm
 have HF:=G hf;clear hi hz0 hz1 hz2 hv hf;subst h1;have qz:(p==0&&s==0&&t==0&&true)=false:=by cases h:(p==0&&s==0&&t==0&&true)with|false=>rfl|true=>(simp at h;exact absurd ⟨h.1.1,h.1.2,h.2⟩ hz)
 have qz2:(p==0&&s==0&&t==0)=false:=by cases h:(p==0&&s==0&&t==0)with|false=>rfl|true=>(simp at h;exact absurd ⟨h.1.1,h.1.2,h.2⟩ hz)
 clear hz;go_enter func166,ntmps166;go_wp2_with fail;(try simp only[Exit.inBlock,Exit.then]);refine bodyPost_ret (fX rfl _ _ (b:=w.heap.size+1) rfl (by go_simp;try rfl) (by go_simp;try rfl) (by go_simp;try rfl) (by go_simp;try rfl)) rfl ?_;refine⟨rfl,?_,?_⟩
 ·repeat(first|exact HF.out|exact Box.set HF.out 0 _|refine aS ?_ _|refine bG ?_ _ (by assumption) _|refine Box.set (cs:=[_]) ?_ 0 _)
 repeat(first|exact aO _ _|refine eX ?_ _|refine bJ (p:=⟨bf,0,N⟩) ?_ _|refine fJ ?_ _ (by simp<;>omega) _)
theorem zAM(p s t:Int)(v:Bool)(va:Int)(a:Bool)(bv bf:Nat)(w:Wv)(hv:Box w bv 3 [I J va])(hf:Box w bf 4 [.bool a])(hz:p=0/\s=0/\t=0)(h1:va=2)(h2:v=true):
  Calls prog 166 #[.agg #[I J p,I J s,I J t,.bool v],.pointer (Z ⟨bv,0,N⟩),.pointer (Z ⟨bf,0,N⟩)] w (fun e w'=>e=.returned (.agg #[I J 0,I J 0,I J 0,I J 0])/\Box w' bf 4 [.bool true]/\w.grownBy w' (Z bf)):=by
 have cv:=hv.c 0 rfl;have cf:=hf.c 0 rfl;have ff:=hf.free 0;have lv:=hv.lt;have lf:=hf.lt;have lv1:bv<w.heap.size+1:=by omega
 have lv2:bv<w.heap.size+1+1:=by omega
 have lf1:bf<w.heap.size+1:=by omega
 have lf2:bf<w.heap.size+1+1:=by omega
 have m1:¬bf=w.heap.size:=by omega
 have m2:¬bf=w.heap.size+1:=by omega
 have m3:¬bf=w.heap.size+1+1:=by omega
 have l1:¬w.heap.size=bf:=by omega
 have l2:¬w.heap.size+1=bf:=by omega
 have l3:¬w.heap.size+1+1=bf:=by omega
 obtain⟨i0,hi,hz0,hz1,hz2⟩:=info_parts aM;have q4:=fun W x y z f x' y' z' f'=>fY (P:=prog) W 9998 173 3 .i64 i0 underlying173 underlying3 hi hz1 x y z f x' y' z' f'
 have x1:¬bv=bf:=by
  intro e;subst e;rw[cv]at cf;cases cf
 have x2:¬bf=bv:=fun e=>x1 e.symm
 have HF:=G hf;clear hi hz0 hz1 hz2 hv hf;subst h1;subst h2;obtain⟨rfl,rfl,rfl⟩:=hz;go_enter func166,ntmps166;go_wp2_with fail;(try simp only[Exit.inBlock,Exit.then]);refine bodyPost_ret (fX rfl _ _ (b:=w.heap.size+1) rfl (by go_simp;try rfl) (by go_simp;try rfl) (by go_simp;try rfl) (by go_simp;try rfl)) rfl ?_;refine⟨rfl,?_,?_⟩
 ·repeat(first|exact HF.out|exact Box.set HF.out 0 _|refine aS ?_ _|refine bG ?_ _ (by assumption) _|refine Box.set (cs:=[_]) ?_ 0 _)
 repeat(first|exact aO _ _|refine eX ?_ _|refine bJ (p:=⟨bf,0,N⟩) ?_ _|refine fJ ?_ _ (by simp<;>omega) _)
theorem zAN(p s t:Int)(v:Bool)(va:Int)(a:Bool)(bv bf:Nat)(w:Wv)(hv:Box w bv 3 [I J va])(hf:Box w bf 4 [.bool a])(hz:¬(p=0/\s=0/\t=0))(h1:va=2)(h2:v=true):
  Calls prog 166 #[.agg #[I J p,I J s,I J t,.bool v],.pointer (Z ⟨bv,0,N⟩),.pointer (Z ⟨bf,0,N⟩)] w (fun e w'=>e=.returned (.agg #[I J 0,I J 0,I J 0,I J 0])/\Box w' bf 4 [.bool true]/\w.grownBy w' (Z bf)):=by
 have cv:=hv.c 0 rfl;have cf:=hf.c 0 rfl;have ff:=hf.free 0;have lv:=hv.lt;have lf:=hf.lt;have lv1:bv<w.heap.size+1:=by omega
 have lv2:bv<w.heap.size+1+1:=by omega
 have lf1:bf<w.heap.size+1:=by omega
 have lf2:bf<w.heap.size+1+1:=by omega
 have m1:¬bf=w.heap.size:=by omega
 have m2:¬bf=w.heap.size+1:=by omega
 have m3:¬bf=w.heap.size+1+1:=by omega
 have l1:¬w.heap.size=bf:=by omega
 have l2:¬w.heap.size+1=bf:=by omega
 have l3:¬w.heap.size+1+1=bf:=by omega
 obtain⟨i0,hi,hz0,hz1,hz2⟩:=info_parts aM;have q4:=fun W x y z f x' y' z' f'=>fY (P:=prog) W 9998 173 3 .i64 i0 underlying173 underlying3 hi hz1 x y z f x' y' z' f'
 have x1:¬bv=bf:=by
  intro e;subst e;rw[cv]at cf;cases cf
 have x2:¬bf=bv:=fun e=>x1 e.symm
 have HF:=G hf;clear hi hz0 hz1 hz2 hv hf;subst h1;subst h2;have qz:(p==0&&s==0&&t==0&&true)=false:=by cases h:(p==0&&s==0&&t==0&&true)with|false=>rfl|true=>(simp at h;exact absurd ⟨h.1.1,h.1.2,h.2⟩ hz)
 have qz2:(p==0&&s==0&&t==0)=false:=by cases h:(p==0&&s==0&&t==0)with|false=>rfl|true=>(simp at h;exact absurd ⟨h.1.1,h.1.2,h.2⟩ hz)
 clear hz;go_enter func166,ntmps166;go_wp2_with fail;(try simp only[Exit.inBlock,Exit.then]);refine bodyPost_ret (fX rfl _ _ (b:=w.heap.size+1) rfl (by go_simp;try rfl) (by go_simp;try rfl) (by go_simp;try rfl) (by go_simp;try rfl)) rfl ?_;refine⟨rfl,?_,?_⟩
 ·repeat(first|exact HF.out|exact Box.set HF.out 0 _|refine aS ?_ _|refine bG ?_ _ (by assumption) _|refine Box.set (cs:=[_]) ?_ 0 _)
 repeat(first|exact aO _ _|refine eX ?_ _|refine bJ (p:=⟨bf,0,N⟩) ?_ _|refine fJ ?_ _ (by simp<;>omega) _)
theorem zAJ(p s t:Int)(v:Bool)(va:Int)(a:Bool)(bv bf:Nat)(w:Wv)(hv:Box w bv 3 [I J va])(hf:Box w bf 4 [.bool a])(hz:¬(p=0/\s=0/\t=0))(h1:va=2)(h2:v=false)(h3:¬p=0):
  Calls prog 166 #[.agg #[I J p,I J s,I J t,.bool v],.pointer (Z ⟨bv,0,N⟩),.pointer (Z ⟨bf,0,N⟩)] w (fun e w'=>e=.returned (.agg #[I J p,I J s,I J t,I J 0])/\Box w' bf 4 [.bool false]/\w.grownBy w' (Z bf)):=by
 have cv:=hv.c 0 rfl;have cf:=hf.c 0 rfl;have ff:=hf.free 0;have lv:=hv.lt;have lf:=hf.lt;have lv1:bv<w.heap.size+1:=by omega
 have lv2:bv<w.heap.size+1+1:=by omega
 have lf1:bf<w.heap.size+1:=by omega
 have lf2:bf<w.heap.size+1+1:=by omega
 have m1:¬bf=w.heap.size:=by omega
 have m2:¬bf=w.heap.size+1:=by omega
 have m3:¬bf=w.heap.size+1+1:=by omega
 have l1:¬w.heap.size=bf:=by omega
 have l2:¬w.heap.size+1=bf:=by omega
 have l3:¬w.heap.size+1+1=bf:=by omega
 obtain⟨i0,hi,hz0,hz1,hz2⟩:=info_parts aM;have q4:=fun W x y z f x' y' z' f'=>fY (P:=prog) W 9998 173 3 .i64 i0 underlying173 underlying3 hi hz1 x y z f x' y' z' f'
 have x1:¬bv=bf:=by
  intro e;subst e;rw[cv]at cf;cases cf
 have x2:¬bf=bv:=fun e=>x1 e.symm
 have HF:=G hf;clear hi hz0 hz1 hz2 hv hf;subst h1;subst h2;have qp:(p !=0)=true:=by simpa using h3
 clear h3;have qz:(p==0&&s==0&&t==0&&true)=false:=by cases h:(p==0&&s==0&&t==0&&true)with|false=>rfl|true=>(simp at h;exact absurd ⟨h.1.1,h.1.2,h.2⟩ hz)
 have qz2:(p==0&&s==0&&t==0)=false:=by cases h:(p==0&&s==0&&t==0)with|false=>rfl|true=>(simp at h;exact absurd ⟨h.1.1,h.1.2,h.2⟩ hz)
 clear hz;go_enter func166,ntmps166;go_wp2_with fail;(try simp only[Exit.inBlock,Exit.then]);refine bodyPost_ret (fX rfl _ _ (b:=w.heap.size+1) rfl (by go_simp;try rfl) (by go_simp;try rfl) (by go_simp;try rfl) (by go_simp;try rfl)) rfl ?_;refine⟨rfl,?_,?_⟩
 ·repeat(first|exact HF.out|exact Box.set HF.out 0 _|refine aS ?_ _|refine bG ?_ _ (by assumption) _|refine Box.set (cs:=[_]) ?_ 0 _)
 repeat(first|exact aO _ _|refine eX ?_ _|refine bJ (p:=⟨bf,0,N⟩) ?_ _|refine fJ ?_ _ (by simp<;>omega) _)
theorem zAK(p s t:Int)(v:Bool)(va:Int)(a:Bool)(bv bf:Nat)(w:Wv)(hv:Box w bv 3 [I J va])(hf:Box w bf 4 [.bool a])(hz:p=0/\s=0/\t=0)(h1:va=2)(h2:v=false)(h4:a=true):
  Calls prog 166 #[.agg #[I J p,I J s,I J t,.bool v],.pointer (Z ⟨bv,0,N⟩),.pointer (Z ⟨bf,0,N⟩)] w (fun e w'=>e=.returned (.agg #[I J 0,I J 0,I J 0,I J 0])/\Box w' bf 4 [.bool true]/\w.grownBy w' (Z bf)):=by
 have cv:=hv.c 0 rfl;have cf:=hf.c 0 rfl;have ff:=hf.free 0;have lv:=hv.lt;have lf:=hf.lt;have lv1:bv<w.heap.size+1:=by omega
 have lv2:bv<w.heap.size+1+1:=by omega
 have lf1:bf<w.heap.size+1:=by omega
 have lf2:bf<w.heap.size+1+1:=by omega
 have m1:¬bf=w.heap.size:=by omega
 have m2:¬bf=w.heap.size+1:=by omega
 have m3:¬bf=w.heap.size+1+1:=by omega
 have l1:¬w.heap.size=bf:=by omega
 have l2:¬w.heap.size+1=bf:=by omega
 have l3:¬w.heap.size+1+1=bf:=by omega
 obtain⟨i0,hi,hz0,hz1,hz2⟩:=info_parts aM;have q4:=fun W x y z f x' y' z' f'=>fY (P:=prog) W 9998 173 3 .i64 i0 underlying173 underlying3 hi hz1 x y z f x' y' z' f'
 have x1:¬bv=bf:=by
  intro e;subst e;rw[cv]at cf;cases cf
 have x2:¬bf=bv:=fun e=>x1 e.symm
 have HF:=G hf;clear hi hz0 hz1 hz2 hv hf;subst h1;subst h2;subst h4;obtain⟨rfl,rfl,rfl⟩:=hz;go_enter func166,ntmps166;go_wp2_with fail;(try simp only[Exit.inBlock,Exit.then]);refine bodyPost_ret (fX rfl _ _ (b:=w.heap.size+1) rfl (by go_simp;try rfl) (by go_simp;try rfl) (by go_simp;try rfl) (by go_simp;try rfl)) rfl ?_;refine⟨rfl,?_,?_⟩
 ·repeat(first|exact HF.out|exact Box.set HF.out 0 _|refine aS ?_ _|refine bG ?_ _ (by assumption) _|refine Box.set (cs:=[_]) ?_ 0 _)
 repeat(first|exact aO _ _|refine eX ?_ _|refine bJ (p:=⟨bf,0,N⟩) ?_ _|refine fJ ?_ _ (by simp<;>omega) _)
theorem zAL(p s t:Int)(v:Bool)(va:Int)(a:Bool)(bv bf:Nat)(w:Wv)(hv:Box w bv 3 [I J va])(hf:Box w bf 4 [.bool a])(hz:¬(s=0/\t=0))(h1:va=2)(h2:v=false)(h3:p=0)(h4:a=true):
  Calls prog 166 #[.agg #[I J p,I J s,I J t,.bool v],.pointer (Z ⟨bv,0,N⟩),.pointer (Z ⟨bf,0,N⟩)] w (fun e w'=>e=.returned (.agg #[I J 0,I J 0,I J 0,I J 0])/\Box w' bf 4 [.bool true]/\w.grownBy w' (Z bf)):=by
 have cv:=hv.c 0 rfl;have cf:=hf.c 0 rfl;have ff:=hf.free 0;have lv:=hv.lt;have lf:=hf.lt;have lv1:bv<w.heap.size+1:=by omega
 have lv2:bv<w.heap.size+1+1:=by omega
 have lf1:bf<w.heap.size+1:=by omega
 have lf2:bf<w.heap.size+1+1:=by omega
 have m1:¬bf=w.heap.size:=by omega
 have m2:¬bf=w.heap.size+1:=by omega
 have m3:¬bf=w.heap.size+1+1:=by omega
 have l1:¬w.heap.size=bf:=by omega
 have l2:¬w.heap.size+1=bf:=by omega
 have l3:¬w.heap.size+1+1=bf:=by omega
 obtain⟨i0,hi,hz0,hz1,hz2⟩:=info_parts aM;have q4:=fun W x y z f x' y' z' f'=>fY (P:=prog) W 9998 173 3 .i64 i0 underlying173 underlying3 hi hz1 x y z f x' y' z' f'
 have x1:¬bv=bf:=by
  intro e;subst e;rw[cv]at cf;cases cf
 have x2:¬bf=bv:=fun e=>x1 e.symm
 have HF:=G hf;clear hi hz0 hz1 hz2 hv hf;subst h1;subst h2;subst h3;subst h4;have qz:(s==0&&t==0&&true)=false:=by cases h:(s==0&&t==0&&true)with|false=>rfl|true=>(simp at h;exact absurd ⟨h.1,h.2⟩ hz)
 have qz2:(s==0&&t==0)=false:=by cases h:(s==0&&t==0)with|false=>rfl|true=>(simp at h;exact absurd ⟨h.1,h.2⟩ hz)
 clear hz;go_enter func166,ntmps166;go_wp2_with fail;(try simp only[Exit.inBlock,Exit.then]);refine bodyPost_ret (fX rfl _ _ (b:=w.heap.size+1) rfl (by go_simp;try rfl) (by go_simp;try rfl) (by go_simp;try rfl) (by go_simp;try rfl)) rfl ?_;refine⟨rfl,?_,?_⟩
 ·repeat(first|exact HF.out|exact Box.set HF.out 0 _|refine aS ?_ _|refine bG ?_ _ (by assumption) _|refine Box.set (cs:=[_]) ?_ 0 _)
 repeat(first|exact aO _ _|refine eX ?_ _|refine bJ (p:=⟨bf,0,N⟩) ?_ _|refine fJ ?_ _ (by simp<;>omega) _)
theorem zAH(p s t:Int)(v:Bool)(va:Int)(a:Bool)(bv bf:Nat)(w:Wv)(hv:Box w bv 3 [I J va])(hf:Box w bf 4 [.bool a])(hz:p=0/\s=0/\t=0)(h1:va=2)(h2:v=false)(h4:a=false):
  Calls prog 166 #[.agg #[I J p,I J s,I J t,.bool v],.pointer (Z ⟨bv,0,N⟩),.pointer (Z ⟨bf,0,N⟩)] w (fun e w'=>e=.returned (.agg #[I J 0,I J 0,I J 0,I J 0])/\Box w' bf 4 [.bool false]/\w.grownBy w' (Z bf)):=by
 have cv:=hv.c 0 rfl;have cf:=hf.c 0 rfl;have ff:=hf.free 0;have lv:=hv.lt;have lf:=hf.lt;have lv1:bv<w.heap.size+1:=by omega
 have lv2:bv<w.heap.size+1+1:=by omega
 have lf1:bf<w.heap.size+1:=by omega
 have lf2:bf<w.heap.size+1+1:=by omega
 have m1:¬bf=w.heap.size:=by omega
 have m2:¬bf=w.heap.size+1:=by omega
 have m3:¬bf=w.heap.size+1+1:=by omega
 have l1:¬w.heap.size=bf:=by omega
 have l2:¬w.heap.size+1=bf:=by omega
 have l3:¬w.heap.size+1+1=bf:=by omega
 obtain⟨i0,hi,hz0,hz1,hz2⟩:=info_parts aM;have q4:=fun W x y z f x' y' z' f'=>fY (P:=prog) W 9998 173 3 .i64 i0 underlying173 underlying3 hi hz1 x y z f x' y' z' f'
 have x1:¬bv=bf:=by
  intro e;subst e;rw[cv]at cf;cases cf
 have x2:¬bf=bv:=fun e=>x1 e.symm
 have HF:=G hf;clear hi hz0 hz1 hz2 hv hf;subst h1;subst h2;subst h4;obtain⟨rfl,rfl,rfl⟩:=hz;go_enter func166,ntmps166;go_wp2_with fail;(try simp only[Exit.inBlock,Exit.then]);refine bodyPost_ret (fX rfl _ _ (b:=w.heap.size+1) rfl (by go_simp;try rfl) (by go_simp;try rfl) (by go_simp;try rfl) (by go_simp;try rfl)) rfl ?_;refine⟨rfl,?_,?_⟩
 ·repeat(first|exact HF.out|exact Box.set HF.out 0 _|refine aS ?_ _|refine bG ?_ _ (by assumption) _|refine Box.set (cs:=[_]) ?_ 0 _)
 repeat(first|exact aO _ _|refine eX ?_ _|refine bJ (p:=⟨bf,0,N⟩) ?_ _|refine fJ ?_ _ (by simp<;>omega) _)
theorem zAI(p s t:Int)(v:Bool)(va:Int)(a:Bool)(bv bf:Nat)(w:Wv)(hv:Box w bv 3 [I J va])(hf:Box w bf 4 [.bool a])(hz:¬(s=0/\t=0))(h1:va=2)(h2:v=false)(h3:p=0)(h4:a=false):
  Calls prog 166 #[.agg #[I J p,I J s,I J t,.bool v],.pointer (Z ⟨bv,0,N⟩),.pointer (Z ⟨bf,0,N⟩)] w (fun e w'=>e=.returned (.agg #[I J 0,I J s,I J t,I J 0])/\Box w' bf 4 [.bool false]/\w.grownBy w' (Z bf)):=by
 have cv:=hv.c 0 rfl;have cf:=hf.c 0 rfl;have ff:=hf.free 0;have lv:=hv.lt;have lf:=hf.lt;have lv1:bv<w.heap.size+1:=by omega
 have lv2:bv<w.heap.size+1+1:=by omega
 have lf1:bf<w.heap.size+1:=by omega
 have lf2:bf<w.heap.size+1+1:=by omega
 have m1:¬bf=w.heap.size:=by omega
 have m2:¬bf=w.heap.size+1:=by omega
 have m3:¬bf=w.heap.size+1+1:=by omega
 have l1:¬w.heap.size=bf:=by omega
 have l2:¬w.heap.size+1=bf:=by omega
 have l3:¬w.heap.size+1+1=bf:=by omega
 obtain⟨i0,hi,hz0,hz1,hz2⟩:=info_parts aM;have q4:=fun W x y z f x' y' z' f'=>fY (P:=prog) W 9998 173 3 .i64 i0 underlying173 underlying3 hi hz1 x y z f x' y' z' f'
 have x1:¬bv=bf:=by
  intro e;subst e;rw[cv]at cf;cases cf
 have x2:¬bf=bv:=fun e=>x1 e.symm
 have HF:=G hf;clear hi hz0 hz1 hz2 hv hf;subst h1;subst h2;subst h3;subst h4;have qz:(s==0&&t==0&&true)=false:=by cases h:(s==0&&t==0&&true)with|false=>rfl|true=>(simp at h;exact absurd ⟨h.1,h.2⟩ hz)
 have qz2:(s==0&&t==0)=false:=by cases h:(s==0&&t==0)with|false=>rfl|true=>(simp at h;exact absurd ⟨h.1,h.2⟩ hz)
 clear hz;go_enter func166,ntmps166;go_wp2_with fail;(try simp only[Exit.inBlock,Exit.then]);refine bodyPost_ret (fX rfl _ _ (b:=w.heap.size+1) rfl (by go_simp;try rfl) (by go_simp;try rfl) (by go_simp;try rfl) (by go_simp;try rfl)) rfl ?_;refine⟨rfl,?_,?_⟩
 ·repeat(first|exact HF.out|exact Box.set HF.out 0 _|refine aS ?_ _|refine bG ?_ _ (by assumption) _|refine Box.set (cs:=[_]) ?_ 0 _)
 repeat(first|exact aO _ _|refine eX ?_ _|refine bJ (p:=⟨bf,0,N⟩) ?_ _|refine fJ ?_ _ (by simp<;>omega) _)
theorem zAT(p s t:Int)(v:Bool)(va:Int)(a:Bool)(bv bf:Nat)(w:Wv)(hv:Box w bv 3 [I J va])(hf:Box w bf 4 [.bool a])(hz:p=0/\s=0/\t=0)(h1:va=3)(h2:v=true):
  Calls prog 166 #[.agg #[I J p,I J s,I J t,.bool v],.pointer (Z ⟨bv,0,N⟩),.pointer (Z ⟨bf,0,N⟩)] w (fun e w'=>e=.returned (.agg #[I J 0,I J 0,I J 0,I J 0])/\Box w' bf 4 [.bool true]/\w.grownBy w' (Z bf)):=by
 have cv:=hv.c 0 rfl;have cf:=hf.c 0 rfl;have ff:=hf.free 0;have lv:=hv.lt;have lf:=hf.lt;have lv1:bv<w.heap.size+1:=by omega
 have lv2:bv<w.heap.size+1+1:=by omega
 have lf1:bf<w.heap.size+1:=by omega
 have lf2:bf<w.heap.size+1+1:=by omega
 have m1:¬bf=w.heap.size:=by omega
 have m2:¬bf=w.heap.size+1:=by omega
 have m3:¬bf=w.heap.size+1+1:=by omega
 have l1:¬w.heap.size=bf:=by omega
 have l2:¬w.heap.size+1=bf:=by omega
 have l3:¬w.heap.size+1+1=bf:=by omega
 obtain⟨i0,hi,hz0,hz1,hz2⟩:=info_parts aM;have q4:=fun W x y z f x' y' z' f'=>fY (P:=prog) W 9998 173 3 .i64 i0 underlying173 underlying3 hi hz1 x y z f x' y' z' f'
 have x1:¬bv=bf:=by
  intro e;subst e;rw[cv]at cf;cases cf
 have x2:¬bf=bv:=fun e=>x1 e.symm
 have HF:=G hf;clear hi hz0 hz1 hz2 hv hf;subst h1;subst h2;obtain⟨rfl,rfl,rfl⟩:=hz;go_enter func166,ntmps166;go_wp2_with fail;(try simp only[Exit.inBlock,Exit.then]);refine bodyPost_ret (fX rfl _ _ (b:=w.heap.size+1) rfl (by go_simp;try rfl) (by go_simp;try rfl) (by go_simp;try rfl) (by go_simp;try rfl)) rfl ?_;refine⟨rfl,?_,?_⟩
 ·repeat(first|exact HF.out|exact Box.set HF.out 0 _|refine aS ?_ _|refine bG ?_ _ (by assumption) _|refine Box.set (cs:=[_]) ?_ 0 _)
 repeat(first|exact aO _ _|refine eX ?_ _|refine bJ (p:=⟨bf,0,N⟩) ?_ _|refine fJ ?_ _ (by simp<;>omega) _)
theorem zAU(p s t:Int)(v:Bool)(va:Int)(a:Bool)(bv bf:Nat)(w:Wv)(hv:Box w bv 3 [I J va])(hf:Box w bf 4 [.bool a])(hz:¬(p=0/\s=0/\t=0))(h1:va=3)(h2:v=true):
  Calls prog 166 #[.agg #[I J p,I J s,I J t,.bool v],.pointer (Z ⟨bv,0,N⟩),.pointer (Z ⟨bf,0,N⟩)] w (fun e w'=>e=.returned (.agg #[I J 0,I J 0,I J 0,I J p])/\Box w' bf 4 [.bool true]/\w.grownBy w' (Z bf)):=by
 have cv:=hv.c 0 rfl;have cf:=hf.c 0 rfl;have ff:=hf.free 0;have lv:=hv.lt;have lf:=hf.lt;have lv1:bv<w.heap.size+1:=by omega
 have lv2:bv<w.heap.size+1+1:=by omega
 have lf1:bf<w.heap.size+1:=by omega
 have lf2:bf<w.heap.size+1+1:=by omega
 have m1:¬bf=w.heap.size:=by omega
 have m2:¬bf=w.heap.size+1:=by omega
 have m3:¬bf=w.heap.size+1+1:=by omega
 have l1:¬w.heap.size=bf:=by omega
 have l2:¬w.heap.size+1=bf:=by omega
 have l3:¬w.heap.size+1+1=bf:=by omega
 obtain⟨i0,hi,hz0,hz1,hz2⟩:=info_parts aM;have q4:=fun W x y z f x' y' z' f'=>fY (P:=prog) W 9998 173 3 .i64 i0 underlying173 underlying3 hi hz1 x y z f x' y' z' f'
 have x1:¬bv=bf:=by
  intro e;subst e;rw[cv]at cf;cases cf
 have x2:¬bf=bv:=fun e=>x1 e.symm
 have HF:=G hf;clear hi hz0 hz1 hz2 hv hf;subst h1;subst h2;have qz:(p==0&&s==0&&t==0&&true)=false:=by cases h:(p==0&&s==0&&t==0&&true)with|false=>rfl|true=>(simp at h;exact absurd ⟨h.1.1,h.1.2,h.2⟩ hz)
 have qz2:(p==0&&s==0&&t==0)=false:=by cases h:(p==0&&s==0&&t==0)with|false=>rfl|true=>(simp at h;exact absurd ⟨h.1.1,h.1.2,h.2⟩ hz)
 clear hz;go_enter func166,ntmps166;go_wp2_with fail;(try simp only[Exit.inBlock,Exit.then]);refine bodyPost_ret (fX rfl _ _ (b:=w.heap.size+1) rfl (by go_simp;try rfl) (by go_simp;try rfl) (by go_simp;try rfl) (by go_simp;try rfl)) rfl ?_;refine⟨rfl,?_,?_⟩
 ·repeat(first|exact HF.out|exact Box.set HF.out 0 _|refine aS ?_ _|refine bG ?_ _ (by assumption) _|refine Box.set (cs:=[_]) ?_ 0 _)
 repeat(first|exact aO _ _|refine eX ?_ _|refine bJ (p:=⟨bf,0,N⟩) ?_ _|refine fJ ?_ _ (by simp<;>omega) _)
theorem zAQ(p s t:Int)(v:Bool)(va:Int)(a:Bool)(bv bf:Nat)(w:Wv)(hv:Box w bv 3 [I J va])(hf:Box w bf 4 [.bool a])(hz:¬(p=0/\s=0/\t=0))(h1:va=3)(h2:v=false)(h3:¬p=0):
  Calls prog 166 #[.agg #[I J p,I J s,I J t,.bool v],.pointer (Z ⟨bv,0,N⟩),.pointer (Z ⟨bf,0,N⟩)] w (fun e w'=>e=.returned (.agg #[I J p,I J s,I J t,I J 65535])/\Box w' bf 4 [.bool false]/\w.grownBy w' (Z bf)):=by
 have cv:=hv.c 0 rfl;have cf:=hf.c 0 rfl;have ff:=hf.free 0;have lv:=hv.lt;have lf:=hf.lt;have lv1:bv<w.heap.size+1:=by omega
 have lv2:bv<w.heap.size+1+1:=by omega
 have lf1:bf<w.heap.size+1:=by omega
 have lf2:bf<w.heap.size+1+1:=by omega
 have m1:¬bf=w.heap.size:=by omega
 have m2:¬bf=w.heap.size+1:=by omega
 have m3:¬bf=w.heap.size+1+1:=by omega
 have l1:¬w.heap.size=bf:=by omega
 have l2:¬w.heap.size+1=bf:=by omega
 have l3:¬w.heap.size+1+1=bf:=by omega
 obtain⟨i0,hi,hz0,hz1,hz2⟩:=info_parts aM;have q4:=fun W x y z f x' y' z' f'=>fY (P:=prog) W 9998 173 3 .i64 i0 underlying173 underlying3 hi hz1 x y z f x' y' z' f'
 have x1:¬bv=bf:=by
  intro e;subst e;rw[cv]at cf;cases cf
 have x2:¬bf=bv:=fun e=>x1 e.symm
 have HF:=G hf;clear hi hz0 hz1 hz2 hv hf;subst h1;subst h2;have qp:(p !=0)=true:=by simpa using h3
 clear h3;have qz:(p==0&&s==0&&t==0&&true)=false:=by cases h:(p==0&&s==0&&t==0&&true)with|false=>rfl|true=>(simp at h;exact absurd ⟨h.1.1,h.1.2,h.2⟩ hz)
 have qz2:(p==0&&s==0&&t==0)=false:=by cases h:(p==0&&s==0&&t==0)with|false=>rfl|true=>(simp at h;exact absurd ⟨h.1.1,h.1.2,h.2⟩ hz)
 clear hz;go_enter func166,ntmps166;go_wp2_with fail;(try simp only[Exit.inBlock,Exit.then]);refine bodyPost_ret (fX rfl _ _ (b:=w.heap.size+1) rfl (by go_simp;try rfl) (by go_simp;try rfl) (by go_simp;try rfl) (by go_simp;try rfl)) rfl ?_;refine⟨rfl,?_,?_⟩
 ·repeat(first|exact HF.out|exact Box.set HF.out 0 _|refine aS ?_ _|refine bG ?_ _ (by assumption) _|refine Box.set (cs:=[_]) ?_ 0 _)
 repeat(first|exact aO _ _|refine eX ?_ _|refine bJ (p:=⟨bf,0,N⟩) ?_ _|refine fJ ?_ _ (by simp<;>omega) _)
theorem zAR(p s t:Int)(v:Bool)(va:Int)(a:Bool)(bv bf:Nat)(w:Wv)(hv:Box w bv 3 [I J va])(hf:Box w bf 4 [.bool a])(hz:p=0/\s=0/\t=0)(h1:va=3)(h2:v=false)(h4:a=true):
  Calls prog 166 #[.agg #[I J p,I J s,I J t,.bool v],.pointer (Z ⟨bv,0,N⟩),.pointer (Z ⟨bf,0,N⟩)] w (fun e w'=>e=.returned (.agg #[I J 0,I J 0,I J 0,I J 0])/\Box w' bf 4 [.bool true]/\w.grownBy w' (Z bf)):=by
 have cv:=hv.c 0 rfl;have cf:=hf.c 0 rfl;have ff:=hf.free 0;have lv:=hv.lt;have lf:=hf.lt;have lv1:bv<w.heap.size+1:=by omega
 have lv2:bv<w.heap.size+1+1:=by omega
 have lf1:bf<w.heap.size+1:=by omega
 have lf2:bf<w.heap.size+1+1:=by omega
 have m1:¬bf=w.heap.size:=by omega
 have m2:¬bf=w.heap.size+1:=by omega
 have m3:¬bf=w.heap.size+1+1:=by omega
 have l1:¬w.heap.size=bf:=by omega
 have l2:¬w.heap.size+1=bf:=by omega
 have l3:¬w.heap.size+1+1=bf:=by omega
 obtain⟨i0,hi,hz0,hz1,hz2⟩:=info_parts aM;have q4:=fun W x y z f x' y' z' f'=>fY (P:=prog) W 9998 173 3 .i64 i0 underlying173 underlying3 hi hz1 x y z f x' y' z' f'
 have x1:¬bv=bf:=by
  intro e;subst e;rw[cv]at cf;cases cf
 have x2:¬bf=bv:=fun e=>x1 e.symm
 have HF:=G hf;clear hi hz0 hz1 hz2 hv hf;subst h1;subst h2;subst h4;obtain⟨rfl,rfl,rfl⟩:=hz;go_enter func166,ntmps166;go_wp2_with fail;(try simp only[Exit.inBlock,Exit.then]);refine bodyPost_ret (fX rfl _ _ (b:=w.heap.size+1) rfl (by go_simp;try rfl) (by go_simp;try rfl) (by go_simp;try rfl) (by go_simp;try rfl)) rfl ?_;refine⟨rfl,?_,?_⟩
 ·repeat(first|exact HF.out|exact Box.set HF.out 0 _|refine aS ?_ _|refine bG ?_ _ (by assumption) _|refine Box.set (cs:=[_]) ?_ 0 _)
 repeat(first|exact aO _ _|refine eX ?_ _|refine bJ (p:=⟨bf,0,N⟩) ?_ _|refine fJ ?_ _ (by simp<;>omega) _)
theorem zAS(p s t:Int)(v:Bool)(va:Int)(a:Bool)(bv bf:Nat)(w:Wv)(hv:Box w bv 3 [I J va])(hf:Box w bf 4 [.bool a])(hz:¬(s=0/\t=0))(h1:va=3)(h2:v=false)(h3:p=0)(h4:a=true):
  Calls prog 166 #[.agg #[I J p,I J s,I J t,.bool v],.pointer (Z ⟨bv,0,N⟩),.pointer (Z ⟨bf,0,N⟩)] w (fun e w'=>e=.returned (.agg #[I J 0,I J 0,I J 0,I J 0])/\Box w' bf 4 [.bool true]/\w.grownBy w' (Z bf)):=by
 have cv:=hv.c 0 rfl;have cf:=hf.c 0 rfl;have ff:=hf.free 0;have lv:=hv.lt;have lf:=hf.lt;have lv1:bv<w.heap.size+1:=by omega
 have lv2:bv<w.heap.size+1+1:=by omega
 have lf1:bf<w.heap.size+1:=by omega
 have lf2:bf<w.heap.size+1+1:=by omega
 have m1:¬bf=w.heap.size:=by omega
 have m2:¬bf=w.heap.size+1:=by omega
 have m3:¬bf=w.heap.size+1+1:=by omega
 have l1:¬w.heap.size=bf:=by omega
 have l2:¬w.heap.size+1=bf:=by omega
 have l3:¬w.heap.size+1+1=bf:=by omega
 obtain⟨i0,hi,hz0,hz1,hz2⟩:=info_parts aM;have q4:=fun W x y z f x' y' z' f'=>fY (P:=prog) W 9998 173 3 .i64 i0 underlying173 underlying3 hi hz1 x y z f x' y' z' f'
 have x1:¬bv=bf:=by
  intro e;subst e;rw[cv]at cf;cases cf
 have x2:¬bf=bv:=fun e=>x1 e.symm
 have HF:=G hf;clear hi hz0 hz1 hz2 hv hf;subst h1;subst h2;subst h3;subst h4;have qz:(s==0&&t==0&&true)=false:=by cases h:(s==0&&t==0&&true)with|false=>rfl|true=>(simp at h;exact absurd ⟨h.1,h.2⟩ hz)
 have qz2:(s==0&&t==0)=false:=by cases h:(s==0&&t==0)with|false=>rfl|true=>(simp at h;exact absurd ⟨h.1,h.2⟩ hz)
 clear hz;go_enter func166,ntmps166;go_wp2_with fail;(try simp only[Exit.inBlock,Exit.then]);refine bodyPost_ret (fX rfl _ _ (b:=w.heap.size+1) rfl (by go_simp;try rfl) (by go_simp;try rfl) (by go_simp;try rfl) (by go_simp;try rfl)) rfl ?_;refine⟨rfl,?_,?_⟩
 ·repeat(first|exact HF.out|exact Box.set HF.out 0 _|refine aS ?_ _|refine bG ?_ _ (by assumption) _|refine Box.set (cs:=[_]) ?_ 0 _)
 repeat(first|exact aO _ _|refine eX ?_ _|refine bJ (p:=⟨bf,0,N⟩) ?_ _|refine fJ ?_ _ (by simp<;>omega) _)
theorem zAO(p s t:Int)(v:Bool)(va:Int)(a:Bool)(bv bf:Nat)(w:Wv)(hv:Box w bv 3 [I J va])(hf:Box w bf 4 [.bool a])(hz:p=0/\s=0/\t=0)(h1:va=3)(h2:v=false)(h4:a=false):
  Calls prog 166 #[.agg #[I J p,I J s,I J t,.bool v],.pointer (Z ⟨bv,0,N⟩),.pointer (Z ⟨bf,0,N⟩)] w (fun e w'=>e=.returned (.agg #[I J 0,I J 0,I J 0,I J 0])/\Box w' bf 4 [.bool false]/\w.grownBy w' (Z bf)):=by
 have cv:=hv.c 0 rfl;have cf:=hf.c 0 rfl;have ff:=hf.free 0;have lv:=hv.lt;have lf:=hf.lt;have lv1:bv<w.heap.size+1:=by omega
 have lv2:bv<w.heap.size+1+1:=by omega
 have lf1:bf<w.heap.size+1:=by omega
 have lf2:bf<w.heap.size+1+1:=by omega
 have m1:¬bf=w.heap.size:=by omega
 have m2:¬bf=w.heap.size+1:=by omega
 have m3:¬bf=w.heap.size+1+1:=by omega
 have l1:¬w.heap.size=bf:=by omega
 have l2:¬w.heap.size+1=bf:=by omega
 have l3:¬w.heap.size+1+1=bf:=by omega
 obtain⟨i0,hi,hz0,hz1,hz2⟩:=info_parts aM;have q4:=fun W x y z f x' y' z' f'=>fY (P:=prog) W 9998 173 3 .i64 i0 underlying173 underlying3 hi hz1 x y z f x' y' z' f'
 have x1:¬bv=bf:=by
  intro e;subst e;rw[cv]at cf;cases cf
 have x2:¬bf=bv:=fun e=>x1 e.symm
 have HF:=G hf;clear hi hz0 hz1 hz2 hv hf;subst h1;subst h2;subst h4;obtain⟨rfl,rfl,rfl⟩:=hz;go_enter func166,ntmps166;go_wp2_with fail;(try simp only[Exit.inBlock,Exit.then]);refine bodyPost_ret (fX rfl _ _ (b:=w.heap.size+1) rfl (by go_simp;try rfl) (by go_simp;try rfl) (by go_simp;try rfl) (by go_simp;try rfl)) rfl ?_;refine⟨rfl,?_,?_⟩
 ·repeat(first|exact HF.out|exact Box.set HF.out 0 _|refine aS ?_ _|refine bG ?_ _ (by assumption) _|refine Box.set (cs:=[_]) ?_ 0 _)
 repeat(first|exact aO _ _|refine eX ?_ _|refine bJ (p:=⟨bf,0,N⟩) ?_ _|refine fJ ?_ _ (by simp<;>omega) _)
theorem zAP(p s t:Int)(v:Bool)(va:Int)(a:Bool)(bv bf:Nat)(w:Wv)(hv:Box w bv 3 [I J va])(hf:Box w bf 4 [.bool a])(hz:¬(s=0/\t=0))(h1:va=3)(h2:v=false)(h3:p=0)(h4:a=false):
  Calls prog 166 #[.agg #[I J p,I J s,I J t,.bool v],.pointer (Z ⟨bv,0,N⟩),.pointer (Z ⟨bf,0,N⟩)] w (fun e w'=>e=.returned (.agg #[I J 0,I J s,I J t,I J 65535])/\Box w' bf 4 [.bool false]/\w.grownBy w' (Z bf)):=by
 have cv:=hv.c 0 rfl;have cf:=hf.c 0 rfl;have ff:=hf.free 0;have lv:=hv.lt;have lf:=hf.lt;have lv1:bv<w.heap.size+1:=by omega
 have lv2:bv<w.heap.size+1+1:=by omega
 have lf1:bf<w.heap.size+1:=by omega
 have lf2:bf<w.heap.size+1+1:=by omega
 have m1:¬bf=w.heap.size:=by omega
 have m2:¬bf=w.heap.size+1:=by omega
 have m3:¬bf=w.heap.size+1+1:=by omega
 have l1:¬w.heap.size=bf:=by omega
 have l2:¬w.heap.size+1=bf:=by omega
 have l3:¬w.heap.size+1+1=bf:=by omega
 obtain⟨i0,hi,hz0,hz1,hz2⟩:=info_parts aM;have q4:=fun W x y z f x' y' z' f'=>fY (P:=prog) W 9998 173 3 .i64 i0 underlying173 underlying3 hi hz1 x y z f x' y' z' f'
 have x1:¬bv=bf:=by
  intro e;subst e;rw[cv]at cf;cases cf
 have x2:¬bf=bv:=fun e=>x1 e.symm
 have HF:=G hf;clear hi hz0 hz1 hz2 hv hf;subst h1;subst h2;subst h3;subst h4;have qz:(s==0&&t==0&&true)=false:=by cases h:(s==0&&t==0&&true)with|false=>rfl|true=>(simp at h;exact absurd ⟨h.1,h.2⟩ hz)
 have qz2:(s==0&&t==0)=false:=by cases h:(s==0&&t==0)with|false=>rfl|true=>(simp at h;exact absurd ⟨h.1,h.2⟩ hz)
 clear hz;go_enter func166,ntmps166;go_wp2_with fail;(try simp only[Exit.inBlock,Exit.then]);refine bodyPost_ret (fX rfl _ _ (b:=w.heap.size+1) rfl (by go_simp;try rfl) (by go_simp;try rfl) (by go_simp;try rfl) (by go_simp;try rfl)) rfl ?_;refine⟨rfl,?_,?_⟩
 ·repeat(first|exact HF.out|exact Box.set HF.out 0 _|refine aS ?_ _|refine bG ?_ _ (by assumption) _|refine Box.set (cs:=[_]) ?_ 0 _)
 repeat(first|exact aO _ _|refine eX ?_ _|refine bJ (p:=⟨bf,0,N⟩) ?_ _|refine fJ ?_ _ (by simp<;>omega) _)
set_option linter.unusedSimpArgs false
theorem ED{a:Bool}{x:Elt}{k:Nat}:wtE 1 a x k=if k<3 then aI x k else if aG x=true then 0 else 65535:=if_pos rfl
theorem zAw(x:Elt)(va:Int)(a:Bool)(bv bf:Nat)(w:Wv)(hv:Box w bv 3 [I J va])(hf:Box w bf 4 [.bool a])(hva:va=1\/va=2\/va=3):
  Calls prog 166 #[.agg #[I J x.p,I J x.s,I J x.t,.bool x.v],.pointer (Z ⟨bv,0,N⟩),.pointer (Z ⟨bf,0,N⟩)] w (vA va a x bf w):=by
 obtain⟨p,s,t,v⟩:=x;dsimp only
 have mk:∀{e:Ending}{w':Wv}{u0 u1 u2 u3:Int}{b:Bool},(e=.returned (.agg #[I J u0,I J u1,I J u2,I J u3])/\Box w' bf 4 [.bool b]/\w.grownBy w' (Z bf))->
   wtE va (aC a ⟨p,s,t,v⟩) ⟨p,s,t,v⟩ 0=u0->wtE va (aC a ⟨p,s,t,v⟩) ⟨p,s,t,v⟩ 1=u1->wtE va (aC a ⟨p,s,t,v⟩) ⟨p,s,t,v⟩ 2=u2->wtE va (aC a ⟨p,s,t,v⟩) ⟨p,s,t,v⟩ 3=u3->(if va=1 then a else aC a ⟨p,s,t,v⟩)=b->vA va a ⟨p,s,t,v⟩ bf w e w':=by
  rintro e w' _ _ _ _ _ ⟨h1,h2,h3⟩ rfl rfl rfl rfl rfl;exact⟨h1,h2,h3⟩
 have cva:∀(k:Int),va=k->(va=1 ↔ k=1)/\(va=3 ↔ k=3):=fun k h=>by rw[h];exact⟨Iff.rfl,Iff.rfl⟩
 by_cases hz:p=0/\s=0/\t=0
 ·have hn:aG ⟨p,s,t,v⟩=true:=by simp[aG,hz]
  have hp:=hz.1;rcases hva with h|h|h
  ·exact(zAV p s t v va a bv bf w hv hf hz h).mono (fun e w' hh=>mk hh (by subst h;simp[wtE,aI,hz]) (by subst h;simp[wtE,aI,hz]) (by subst h;simp[wtE,aI,hz]) (by subst h;simp[wtE,hn]) (if_pos h))
  ·cases h2:v with
   |true=>
    subst h2;exact(zAM p s t true va a bv bf w hv hf hz h rfl).mono (fun e w' hh=>mk hh (by subst h;simp[wtE,aI,aC,aG,hz]) (by subst h;simp[wtE,aI,aC,aG,hz]) (by subst h;simp[wtE,aI,aC,aG,hz]) (by subst h;simp[wtE,aI,aC,aG,hz]) (by rw[if_neg (by omega)];simp[aC,aG,hz]))
   |false=>
    subst h2;cases h4:a with
    |true=>
     subst h4;exact(zAK p s t false va true bv bf w hv hf hz h rfl rfl).mono (fun e w' hh=>mk hh (by subst h;simp[wtE,aI,aC,aG,hz]) (by subst h;simp[wtE,aI,aC,aG,hz]) (by subst h;simp[wtE,aI,aC,aG,hz]) (by subst h;simp[wtE,aI,aC,aG,hz]) (by rw[if_neg (by omega)];simp[aC,aG,hz]))
    |false=>
     subst h4;exact(zAH p s t false va false bv bf w hv hf hz h rfl rfl).mono (fun e w' hh=>mk hh (by subst h;simp[wtE,aI,aC,aG,hz]) (by subst h;simp[wtE,aI,aC,aG,hz]) (by subst h;simp[wtE,aI,aC,aG,hz]) (by subst h;simp[wtE,aI,aC,aG,hz]) (by rw[if_neg (by omega)];simp[aC,aG,hz]))
  cases h2:v with
  |true=>
   subst h2;exact(zAT p s t true va a bv bf w hv hf hz h rfl).mono (fun e w' hh=>mk hh (by subst h;simp[wtE,aI,aC,aG,hz]) (by subst h;simp[wtE,aI,aC,aG,hz]) (by subst h;simp[wtE,aI,aC,aG,hz]) (by subst h;simp[wtE,aI,aC,aG,hz]) (by rw[if_neg (by omega)];simp[aC,aG,hz]))
  |false=>
   subst h2;cases h4:a with
   |true=>
    subst h4;exact(zAR p s t false va true bv bf w hv hf hz h rfl rfl).mono (fun e w' hh=>mk hh (by subst h;simp[wtE,aI,aC,aG,hz]) (by subst h;simp[wtE,aI,aC,aG,hz]) (by subst h;simp[wtE,aI,aC,aG,hz]) (by subst h;simp[wtE,aI,aC,aG,hz]) (by rw[if_neg (by omega)];simp[aC,aG,hz]))
   |false=>
    subst h4;exact(zAO p s t false va false bv bf w hv hf hz h rfl rfl).mono (fun e w' hh=>mk hh (by subst h;simp[wtE,aI,aC,aG,hz]) (by subst h;simp[wtE,aI,aC,aG,hz]) (by subst h;simp[wtE,aI,aC,aG,hz]) (by subst h;simp[wtE,aI,aC,aG,hz]) (by rw[if_neg (by omega)];simp[aC,aG,hz]))
 have hn:aG ⟨p,s,t,v⟩=false:=by
  cases h:aG ⟨p,s,t,v⟩with
  |false=>rfl
  |true=>simp[aG]at h;exact absurd ⟨h.1.1,h.1.2,h.2⟩ hz
 rcases hva with h|h|h
 ·exact(zAW p s t v va a bv bf w hv hf hz h).mono (fun e w' hh=>mk hh (by subst h;simp[wtE,aI]) (by subst h;simp[wtE,aI]) (by subst h;simp[wtE,aI]) (by subst h;simp[wtE,hn]) (if_pos h))
 ·cases h2:v with
  |true=>
   subst h2;exact(zAN p s t true va a bv bf w hv hf hz h rfl).mono (fun e w' hh=>mk hh (by subst h;simp[wtE,aI,aC,hn]) (by subst h;simp[wtE,aI,aC,hn]) (by subst h;simp[wtE,aI,aC,hn]) (by subst h;simp[wtE,aI,aC,hn]) (by rw[if_neg (by omega)];simp[aC,hn]))
  |false=>
   subst h2;by_cases h3:p=0
   ·have hz':¬(s=0/\t=0):=fun g=>hz ⟨h3,g⟩
    cases h4:a with
    |true=>
     subst h4;exact(zAL p s t false va true bv bf w hv hf hz' h rfl h3 rfl).mono (fun e w' hh=>mk hh (by subst h;simp[wtE,aI,aC,aG,h3,hz']) (by subst h;simp[wtE,aI,aC,aG,h3,hz']) (by subst h;simp[wtE,aI,aC,aG,h3,hz']) (by subst h;simp[wtE,aI,aC,aG,h3,hz']) (by rw[if_neg (by omega)];simp[aC,aG,h3,hz']))
    |false=>
     subst h4;exact(zAI p s t false va false bv bf w hv hf hz' h rfl h3 rfl).mono (fun e w' hh=>mk hh (by subst h;simp[wtE,aI,aC,aG,h3,hz']) (by subst h;simp[wtE,aI,aC,aG,h3,hz']) (by subst h;simp[wtE,aI,aC,aG,h3,hz']) (by subst h;simp[wtE,aI,aC,aG,h3,hz']) (by rw[if_neg (by omega)];simp[aC,aG,h3,hz']))
   exact(zAJ p s t false va a bv bf w hv hf hz h rfl h3).mono (fun e w' hh=>mk hh (by subst h;simp[wtE,aI,aC,hn,h3]) (by subst h;simp[wtE,aI,aC,hn,h3]) (by subst h;simp[wtE,aI,aC,hn,h3]) (by subst h;simp[wtE,aI,aC,hn,h3]) (by rw[if_neg (by omega)];simp[aC,hn,h3]))
 cases h2:v with
 |true=>
  subst h2;exact(zAU p s t true va a bv bf w hv hf hz h rfl).mono (fun e w' hh=>mk hh (by subst h;simp[wtE,aI,aC,hn]) (by subst h;simp[wtE,aI,aC,hn]) (by subst h;simp[wtE,aI,aC,hn]) (by subst h;simp[wtE,aI,aC,hn]) (by rw[if_neg (by omega)];simp[aC,hn]))
 |false=>
  subst h2;by_cases h3:p=0
  ·have hz':¬(s=0/\t=0):=fun g=>hz ⟨h3,g⟩
   cases h4:a with
   |true=>
    subst h4;exact(zAS p s t false va true bv bf w hv hf hz' h rfl h3 rfl).mono (fun e w' hh=>mk hh (by subst h;simp[wtE,aI,aC,aG,h3,hz']) (by subst h;simp[wtE,aI,aC,aG,h3,hz']) (by subst h;simp[wtE,aI,aC,aG,h3,hz']) (by subst h;simp[wtE,aI,aC,aG,h3,hz']) (by rw[if_neg (by omega)];simp[aC,aG,h3,hz']))
   |false=>
    subst h4;exact(zAP p s t false va false bv bf w hv hf hz' h rfl h3 rfl).mono (fun e w' hh=>mk hh (by subst h;simp[wtE,aI,aC,aG,h3,hz']) (by subst h;simp[wtE,aI,aC,aG,h3,hz']) (by subst h;simp[wtE,aI,aC,aG,h3,hz']) (by subst h;simp[wtE,aI,aC,aG,h3,hz']) (by rw[if_neg (by omega)];simp[aC,aG,h3,hz']))
  exact(zAQ p s t false va a bv bf w hv hf hz h rfl h3).mono (fun e w' hh=>mk hh (by subst h;simp[wtE,aI,aC,hn,h3]) (by subst h;simp[wtE,aI,aC,hn,h3]) (by subst h;simp[wtE,aI,aC,hn,h3]) (by subst h;simp[wtE,aI,aC,hn,h3]) (by rw[if_neg (by omega)];simp[aC,hn,h3]))
end
end Go.Proofs.YtpfbnikbebccjaaGreatDoor
