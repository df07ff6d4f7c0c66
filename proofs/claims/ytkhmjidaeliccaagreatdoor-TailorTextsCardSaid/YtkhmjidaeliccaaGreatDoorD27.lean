import Derived.Test.YtkhmjidaeliccaaGreatDoorD00
import Derived.Test.YtkhmjidaeliccaaGreatDoorD02
import Derived.Test.YtkhmjidaeliccaaGreatDoorD05
import Derived.Test.YtkhmjidaeliccaaGreatDoorD06
import Derived.Test.YtkhmjidaeliccaaGreatDoorD07
import Derived.Test.YtkhmjidaeliccaaGreatDoorD08
import Derived.Test.YtkhmjidaeliccaaGreatDoorD23
import Derived.Test.YtkhmjidaeliccaaGreatDoorD26
import Derived.BigQuiet
import Derived.BigRegion
import Derived.Deep.Cut
set_option maxRecDepth 100000
set_option maxHeartbeats 51200000
namespace Go.Proofs.YtkhmjidaeliccaaGreatDoor
open Option renaming none->N,some->Z
open Value renaming int->I,slice->H
open IntKind renaming i64->J
open Go.Proofs.Tryz
section
open Go.ChangeShapes Go.WideShapes Go.ChangeAt Go.RowKit Tl
def Txt(w:Wv)(A:Oa)(k:Nat)(t:Li):Prop:=aB w A t/\t.length<=k/\k<=9223372036854775807/\∀z∈t,iok z
theorem Txt.below{w w':Wv}{A:Oa}{k:Nat}{t:Li}(h:Txt w A k t)(hb:By w w'):Txt w' A k t:=⟨h.1.below hb,h.2⟩
def uB(t:Tlr):Prop:=t.anc.length<=9223372036854775807/\t.cds.length<=9223372036854775807/\(∀z∈t.anc,iok z)/\∀z∈t.cds,iok z
abbrev TlV:=(Oa×Nat×Oa×Nat)×Tlr
theorem zQ:∀vs:List TlV,eI (vs.map Prod.fst) (vs.map Prod.snd)=aE (fun p:TlV=>b_ p.1 p.2) vs
 | []=>rfl
 |v::vs=>by
  show b_ v.1 v.2++eI (vs.map Prod.fst) (vs.map Prod.snd)=_
  rw[zQ vs];rfl
section
variable {H:Type}{enc:TypeId×Value->H}{w:Wv}{base:Nat}{spare:Nat->Bool}{held:Bool}{fuel:Nat}{cs:Lv}{x:DataW H×List MemPlace}
theorem sM(h:DataW.trod enc prog w base spare held fuel 33 cs=Z x):
  ∃A len cap,∃l:Li,cs=[.slice A len cap]/\l.length=len/\Txt w A cap l:=by
 obtain⟨A,len,cap,l,h1,h2,h3,h4,h5,h6⟩:=iL (α:=Int) (fun z=>[I J z]) 1 (by omega) (fun _=>rfl) (fun z=>iok z) underlying33 ci (fun fuel cs x hl hx=>by
  obtain⟨z,hz,_,hw⟩:=DataW.trod_int underlying3 hx
  exact⟨z,hz,hw⟩) h
 refine⟨A,len,cap,l,h1,h2,?_,by omega,h4,h6⟩;unfold dN aE at h5;unfold aB;rw[show l.map (Value.int .i64)=l.flatMap (fun z=>[I J z]) by clear h2 h5 h6;induction l<;>simp_all];exact h5
theorem xU(h:DataW.trod enc prog w base spare held fuel 35 cs=Z x)(hl:cs.length=4):
  ∃p:TlV,cs=b_ p.1 p.2/\Txt w p.1.1 p.1.2.1 p.2.anc/\Txt w p.1.2.2.1 p.1.2.2.2 p.2.cds/\iok p.2.lvl:=by
 obtain⟨xs,k,hk,hxy,_,hxl,hfs⟩:=DataW.trod_struct underlying35 h;match xs,hxl,cs,hl with
 | [y0,y1,y2,y3],_,[v0,v1,v2,v3],_=>
  have g0:=hfs 0 _ rfl;have g1:=hfs 1 _ rfl;have g2:=hfs 2 _ rfl;have g3:=hfs 3 _ rfl;simp[ci,cI,cb']at g0 g1 g2 g3;obtain⟨A0,n0,c0,l0,e0,f0,i0⟩:=sM g0;obtain⟨A1,n1,c1,l1,e1,f1,i1⟩:=sM g1;obtain⟨z2,e2,_,w2⟩:=DataW.trod_int underlying3 g2;obtain⟨z3,e3,_⟩:=DataW.trod_bool underlying4 g3;simp at e0 e1 e2 e3;subst e0;subst e1;subst e2;subst e3;subst f0;subst f1;exact⟨((A0,c0,A1,c1),⟨l0,l1,z2,z3⟩),rfl,i0,i1,w2⟩
theorem QI(h:DataW.trod enc prog w base spare held fuel 44 cs=Z x):
  ∃A len cap,∃l:List Tlr,cs=[.slice A len cap]/\l.length=len/\len<=cap/\cap<=9223372036854775807/\eU w A l/\∀t∈l,uB t:=by
 have:Inhabited TlV:=⟨((N,0,N,0),⟨[],[],0,false⟩)⟩
 obtain⟨A,len,cap,vs,h1,h2,h3,h4,h5,h6⟩:=iL (α:=TlV) (fun p=>b_ p.1 p.2) 4 (by omega) (fun _=>rfl) (fun p=>Txt w p.1.1 p.1.2.1 p.2.anc/\Txt w p.1.2.2.1 p.1.2.2.2 p.2.cds) underlying44 (by kernel_rfl) (fun fuel cs x hl hx=>by
  obtain⟨p,e,i0,i1,_⟩:=xU hx hl
  exact⟨p,e,i0,i1⟩) h
 refine⟨A,len,cap,vs.map Prod.snd,h1,by simpa using h2,h3,h4,⟨vs.map Prod.fst,by simp,?_,fun i hi hv=>?_⟩,fun t ht=>?_⟩
 ·rw[zQ]
  exact h5
 ·have hi':i<vs.length:=by simpa using hi
  have hp:=h6 _ (List.getElem_mem hi');simp only[List.getElem_map];exact⟨hp.1.1,hp.2.1⟩
 obtain⟨p,hp,rfl⟩:=List.mem_map.1 ht;obtain⟨a,b⟩:=h6 p hp;exact⟨Nat.le_trans a.2.1 a.2.2.1,Nat.le_trans b.2.1 b.2.2.1,a.2.2.2,b.2.2.2⟩
theorem QE(h:DataW.trod enc prog w base spare held fuel 28 cs=Z x):
  ∃A0 k0 A1 k1 A2 k2,∃C:Nrm,cs=[.slice A0 C.cls.length k0,.slice A1 C.dec.length k1,.slice A2 C.exc.length k2]/\dC w A0 C.cls.length A1 C.dec.length A2 C.exc.length C/\pU C:=by
 obtain⟨xs,k,hk,hxy,hcl,hxl,hfs⟩:=DataW.trod_struct underlying28 h;have h6:prog.cellsOf 28=3:=by kernel_rfl
 rw[h6]at hcl;match xs,hxl,cs,hcl with
 | [y0,y1,y2],_,[v0,v1,v2],_=>
  have g0:=hfs 0 _ rfl;have g1:=hfs 1 _ rfl;have g2:=hfs 2 _ rfl;simp[OS,mcM,mcS]at g0 g1 g2;obtain⟨A0,n0,c0,l0,e0,f0,q0,r0,i0⟩:=QH g0;obtain⟨A1,n1,c1,l1,e1,f1,q1,r1,i1,s1⟩:=QD g1;obtain⟨A2,n2,c2,l2,e2,f2,q2,r2,i2⟩:=QG rfl g2;simp at e0 e1 e2;subst e0;subst e1;subst e2;subst f0;subst f1;subst f2;exact⟨A0,c0,A1,c1,A2,c2,⟨l0,l1,l2⟩,rfl,⟨i0,i1,i2,rfl,rfl,rfl⟩,⟨by show l0.length<=_;omega,by show l1.length<=_;omega,by show l2.length<=_;omega,s1⟩⟩
theorem PX(h:DataW.trod enc prog w base spare held fuel 32 cs=Z x):
  ∃A a B b,∃c:Col,cs=[.slice A c.ents.length a,.slice B c.grps.length b,I J c.base,I J c.second,I J c.third]/\aY w A c.ents.length B c.grps.length c/\c.ents.length<=a/\a<=9223372036854775807/\c.grps.length<=b/\b<=9223372036854775807:=by
 obtain⟨xs,k,hk,hxy,hcl,hxl,hfs⟩:=DataW.trod_struct underlying32 h;have h5:prog.cellsOf 32=5:=by kernel_rfl
 rw[h5]at hcl;match xs,hxl,cs,hcl with
 | [y0,y1,y2,y3,y4],_,[v0,v1,v2,v3,v4],_=>
  have g0:=hfs 0 _ rfl;have g1:=hfs 1 _ rfl;have g2:=hfs 2 _ rfl;have g3:=hfs 3 _ rfl;have g4:=hfs 4 _ rfl;simp[ci,cN,cG]at g0 g1 g2 g3 g4;obtain⟨A,n,a,l0,e0,f0,q0,r0,i0⟩:=PZ g0;obtain⟨B,m,b,l1,e1,f1,q1,r1,i1,s1⟩:=P_ g1;obtain⟨z2,e2,_,_⟩:=DataW.trod_int underlying3 g2;obtain⟨z3,e3,_,_⟩:=DataW.trod_int underlying3 g3;obtain⟨z4,e4,_,_⟩:=DataW.trod_int underlying3 g4;simp at e0 e1 e2 e3 e4;subst e0;subst e1;subst e2;subst e3;subst e4;subst f0;subst f1;exact⟨A,a,B,b,⟨l0,l1,z2,z3,z4⟩,rfl,⟨i0,i1,rfl,rfl,s1⟩,q0,r0,q1,r1⟩
theorem cNo:prog.cellsOf 28=3:=by kernel_rfl
theorem cCo:prog.cellsOf 32=5:=by kernel_rfl
theorem cTl:prog.cellsOf 35=4:=by kernel_rfl
end
structure iT where
 A0:Oa
 k0:Nat
 A1:Oa
 k1:Nat
 A2:Oa
 k2:Nat
 C:Oa
 a:Nat
 B:Oa
 b:Nat
 P:Oa
 p:Nat
 Q:Oa
 q:Nat
def DR(V:iT)(x:Nrm)(c:Col)(t:Tlr):Lv:=
 [.slice V.A0 x.cls.length V.k0,.slice V.A1 x.dec.length V.k1,.slice V.A2 x.exc.length V.k2,.slice V.C c.ents.length V.a,.slice V.B c.grps.length V.b,I J c.base,I J c.second,I J c.third,.slice V.P t.anc.length V.p,.slice V.Q t.cds.length V.q,I J t.lvl,.bool t.bef]
structure jQ(w:Wv)(V:iT)(x:Nrm)(c:Col)(t:Tlr):Prop where
 nrm:dC w V.A0 x.cls.length V.A1 x.dec.length V.A2 x.exc.length x
 ln:pU x
 col:aY w V.C c.ents.length V.B c.grps.length c
 na:c.ents.length<=V.a
 aa:V.a<=9223372036854775807
 mb:c.grps.length<=V.b
 bb:V.b<=9223372036854775807
 anc:Txt w V.P V.p t.anc
 cds:Txt w V.Q V.q t.cds
section
variable {H:Type}{enc:TypeId×Value->H}{w:Wv}{base:Nat}{spare:Nat->Bool}{held:Bool}
theorem open_ask{v:Value}{r:Reach}{b0:Nat}{d:DataW H}{p:List MemPlace}(hok:Value.okWide prog w r b0 37 v)(h:DataW.Trod enc prog w base spare held 37 v d p):
  ∃(V:iT)(x:Nrm)(c:Col)(t:Tlr),v=.agg (DR V x c t).toArray/\jQ w V x c t:=by
 obtain⟨fuel,hf⟩:=h;obtain⟨cs,rfl,_⟩:=okWide_struct underlying37 hok;obtain⟨xs,k,hk,hxy,hcl,hxl,hfs⟩:=DataW.trod_struct underlying37 hf;have h12:prog.cellsOf 37=12:=by kernel_rfl
 rw[h12]at hcl;obtain⟨cs⟩:=cs;simp only[Value.cells]at hcl hfs;match xs,hxl,cs,hcl with
 | [y0,y1,y2],_,[v0,v1,v2,v3,v4,v5,v6,v7,v8,v9,v10,v11],_=>
  have g0:=hfs 0 _ rfl;have g1:=hfs 1 _ rfl;have g2:=hfs 2 _ rfl;simp[cNo,cCo,cTl]at g0 g1 g2;obtain⟨A0,k0,A1,k1,A2,k2,x,e0,i0,j0⟩:=QE g0;obtain⟨C,a,B,b,c,e1,i1,q1,r1,q2,r2⟩:=PX g1;obtain⟨⟨⟨P,p,Q,q⟩,t⟩,e2,i2,i3,_⟩:=xU g2 rfl;simp[b_]at e0 e1 e2;obtain⟨rfl,rfl,rfl⟩:=e0;obtain⟨rfl,rfl,rfl,rfl,rfl⟩:=e1;obtain⟨rfl,rfl,rfl,rfl⟩:=e2;exact⟨⟨A0,k0,A1,k1,A2,k2,C,a,B,b,P,p,Q,q⟩,x,c,t,rfl,⟨i0,j0,i1,q1,r1,q2,r2,i2,i3⟩⟩
theorem open_tlrs{A:Oa}{n c:Nat}{d:DataW H}{p:List MemPlace}(h:DataW.Trod enc prog w base spare held 44 (.slice A n c) d p):
  ∃l:List Tlr,l.length=n/\n<=c/\c<=9223372036854775807/\eU w A l/\∀t∈l,uB t:=by
 obtain⟨fuel,hf⟩:=h;obtain⟨A',n',c',l,e,h1,h2,h3,h4⟩:=QI hf;have e':[Value.slice A n c]=[.slice A' n' c']:=e;injection e' with e' _;injection e' with ea en ec;subst ea;subst en;subst ec;exact⟨l,h1,h2,h3,h4⟩
theorem open_text{A:Oa}{n c:Nat}{d:DataW H}{p:List MemPlace}(h:DataW.Trod enc prog w base spare held 33 (.slice A n c) d p):
  ∃l:Li,l.length=n/\Txt w A c l:=by
 obtain⟨fuel,hf⟩:=h;obtain⟨A',n',c',l,e,h1,h2⟩:=sM hf;have e':[Value.slice A n c]=[.slice A' n' c']:=e;injection e' with e' _;injection e' with ea en ec;subst ea;subst en;subst ec;exact⟨l,h1,h2⟩
end
end
section
open Go.RowKit Go.Maps Go.WideMaps
def fZ(c:Col):Bool:=decide (c.ents.length<=12)&&decide (c.grps.length<=8)&&c.ents.all (fun x=>decide (x.codes.length<=10)&&decide (x.elems.length<=20))
theorem y_{c:Col}(h:fZ c=true):aZ c/\c.grps.length<=8/\c.ents.length<=12/\∀x∈c.ents,x.codes.length<=10/\x.elems.length<=20:=by
 unfold fZ at h;simp only[Bool.and_eq_true,decide_eq_true_eq,List.all_eq_true]at h;obtain⟨⟨h1,h2⟩,h3⟩:=h;refine⟨⟨fun i hi=>?_,by omega,by omega⟩,h2,h1,h3⟩;have:=h3 _ (List.getElem_mem hi);omega
section
variable {c:Col}
theorem UQ(h:¬c.ents.length<=12):fZ c=false:=by simp[fZ];omega
theorem UR(h:¬c.grps.length<=8):fZ c=false:=by simp[fZ];omega
theorem UU{k:Nat}(hk:k<c.ents.length)(h:¬(c.ents[k].codes.length<=10/\c.ents[k].elems.length<=20)):fZ c=false:=by
 cases hs:fZ c with
 |false=>rfl
 |true=>exact absurd ((y_ hs).2.2.2 _ (List.getElem_mem hk)) h
theorem UV(h1:c.ents.length<=12)(h2:c.grps.length<=8)(h:∀t,(ht:t<c.ents.length)->c.ents[t].codes.length<=10/\c.ents[t].elems.length<=20):fZ c=true:=by
 unfold fZ;simp only[Bool.and_eq_true,decide_eq_true_eq,List.all_eq_true];refine⟨⟨h1,h2⟩,fun x hx=>?_⟩;obtain⟨t,ht,rfl⟩:=List.getElem_of_mem hx;exact h t ht
end
theorem UW(A:Oa)(n a:Nat)(B:Oa)(m b:Nat)(c:Col)(w:Wv)(h:aY w A n B m c):
  Calls prog 32 #[aS A n a B m b c] w fun e w'=>e=.returned (.bool (fZ c))/\By w w':=by
 have B0:By w (w.alloc (.cells #[H A n a,H B m b,I J c.base,I J c.second,I J c.third] 32)):=ba _ _;have k0:(w.alloc (.cells #[H A n a,H B m b,I J c.base,I J c.second,I J c.third] 32)).cell? ⟨w.heap.size,0,N⟩=Z (H A n a):=by simp
 have k1:(w.alloc (.cells #[H A n a,H B m b,I J c.base,I J c.second,I J c.third] 32)).cell? ⟨w.heap.size,1,N⟩=Z (H B m b):=by simp
 have W0E:∃W0,w.alloc (.cells #[H A n a,H B m b,I J c.base,I J c.second,I J c.third] 32)=W0:=⟨_,rfl⟩;have S1:=G (UQ (c:=c));have S2:=G (UR (c:=c));have S3:=G (fun k=>UU (c:=c) (k:=k));have S4:=G (UV (c:=c));have HE:=G h.ents;have hn:=h.hn;have hm:=h.hm;unfold aS;generalize fZ c=r at *;generalize c.base=cb at *;generalize c.second=cs at *;generalize c.third=ct at *;generalize c.ents=es at *;generalize c.grps=gs at *;subst hn;subst hm;clear h;go_enter func32,ntmps32;by_cases h1:es.length<=12
 ·have q1:decide ((12:Int)<(es.length:Int))=false:=by simp;omega
  by_cases h2:gs.length<=8
  ·have q2:decide ((8:Int)<(gs.length:Int))=false:=by simp;omega
   clear S1 S2;go_wp2_with fail;obtain⟨W0,hW0⟩:=W0E;rw[hW0]at B0 k0 k1|-;clear hW0 k1;have HE0:=G (HE.out.below B0);go_loopw [3] (fun u wr=>∃i:Nat,i<=es.length/\u=I J i/\(∀t,(ht:t<es.length)->t<i->es[t].codes.length<=10/\es[t].elems.length<=20)/\wr=W0) (fun u _=>es.length-(intOf u).toNat)
   case atStart=>exact⟨0,Nat.zero_le _,rfl,fun t _ h=>by omega,rfl⟩
   obtain⟨i,hi,rfl,hne,rfl⟩:=hrel;have HNE:=G hne;clear hne;by_cases hlt:i<es.length
   ·obtain⟨b1,o1,rfl,hbl,hcell⟩:=HE0.out.at hlt
    obtain⟨C,c',E,d,c1,c2,_,_⟩:=hcell i hlt;have HN:=G (fun h=>eK (P:=fun x=>x.codes.length<=10/\x.elems.length<=20) hlt HNE.out h);have HY:=G (fun h=>S3.out i hlt h);clear hcell S3 S4;generalize es[i]=ei at *;obtain⟨ec,ee⟩:=ei;dsimp only at *;by_cases h3:ec.length<=10
    ·have q3:decide ((10:Int)<(ec.length:Int))=false:=by simp;omega
     by_cases h4:ee.length<=20
     ·have q4:decide ((20:Int)<(ee.length:Int))=false:=by simp;omega
      have HQ:=G (HN.out ⟨h3,h4⟩);clear HN HY;go_wp2_with fail;go_roundw
      case rel=>exact⟨i+1,by omega,by go_num,HQ.out,trivial⟩
      simp[intOf];omega
     have q4:decide ((20:Int)<(ee.length:Int))=true:=by simp;omega
     obtain rfl:=HY.out (fun h=>h4 h.2);clear HN HY;go_wp2_with fail;go_ret;exact⟨rfl,B0⟩
    have q3:decide ((10:Int)<(ec.length:Int))=true:=by simp;omega
    obtain rfl:=HY.out (fun h=>h3 h.1);clear HN HY;go_wp2_with fail;go_ret;exact⟨rfl,B0⟩
   obtain rfl:=S4.out h1 h2 (fun t ht=>HNE.out t ht (by omega));go_wp2_with fail;go_ret;exact⟨rfl,B0⟩
  have q2:decide ((8:Int)<(gs.length:Int))=true:=by simp;omega
  obtain rfl:=S2.out h2;clear S1 S2 S3 S4;go_wp2_with fail;go_ret;exact⟨rfl,B0⟩
 have q1:decide ((12:Int)<(es.length:Int))=true:=by simp;omega
 obtain rfl:=S1.out h1;clear S1 S2 S3 S4;go_wp2_with fail;go_ret;exact⟨rfl,B0⟩
end
section
open Go.RowKit Go.Maps Go.WideMaps Tl Pa
def gN(l:List Tlr):Bool:=(l.take 20).all (fun t=>decide (t.anc.length<=12)&&decide (t.cds.length<=12))&&decide (l.length<=6)
theorem I_{l:List Tlr}{i:Nat}(hi:i<l.length)(h2:i<20)(h:¬(l[i].anc.length<=12/\l[i].cds.length<=12)):gN l=false:=by
 unfold gN;rw[Bool.and_eq_false_iff];left;rw[List.all_eq_false];refine⟨l[i],?_,by simpa using h⟩;rw[List.mem_iff_getElem];exact⟨i,by rw[List.length_take];omega,by rw[List.getElem_take]⟩
theorem JC{l:List Tlr}(h:∀j,(hj:j<l.length)->j<20->l[j].anc.length<=12/\l[j].cds.length<=12):gN l=decide (l.length<=6):=by
 unfold gN;rw[List.all_eq_true.2,Bool.true_and];intro t ht;obtain⟨j,hj,rfl⟩:=List.getElem_of_mem ht;rw[List.length_take]at hj;rw[List.getElem_take];simpa using h j (by omega) (by omega)
theorem vP{l:List Tlr}(h:gN l=true):l.length<=6/\∀t∈l,t.anc.length<=12/\t.cds.length<=12:=by
 unfold gN at h;rw[Bool.and_eq_true,List.all_eq_true]at h;have h6:l.length<=6:=by simpa using h.2
 refine⟨h6,fun t ht=>?_⟩;have:=h.1 t (by rw[List.take_of_length_le (by omega)];exact ht);simpa using this
theorem vQ(K:Oa)(k:Nat)(l:List Tlr)(w:Wv)(hK:eU w K l)(hz:l.length<=9223372036854775807)(hzs:∀t∈l,t.anc.length<=9223372036854775807/\t.cds.length<=9223372036854775807):Calls prog 16 #[H K l.length k] w (fun e w'=>e=.returned (.bool (gN l))/\Qt w w'):=by
 have HK:=G hK;have HZ:=G hzs;have HBAD:=G (fun i hi h2 h=>I_ (l:=l) (i:=i) hi h2 h);have HEND:=G (fun h=>JC (l:=l) h);obtain⟨r,hr⟩:∃r,gN l=r:=⟨_,rfl⟩;rw[hr]at HBAD HEND|-;clear hK hr hzs;go_enter func16,ntmps16;go_wp2_with fail;go_loopw [3] (fun u wr=>∃i:Nat,i<=l.length/\i<=20/\u=I J i/\Hid (∀j,(hj:j<l.length)->j<i->l[j].anc.length<=12/\l[j].cds.length<=12)/\Qt w wr) (fun u _=>l.length-(intOf u).toNat)
 case atStart=>exact⟨0,Nat.zero_le _,by omega,rfl,G (fun j _ h=>absurd h (by omega)),Qt.refl _⟩
 obtain⟨i,hi,h20,rfl,hall,hq⟩:=hrel;obtain⟨nq,rfl⟩:=hq;by_cases hlt:i<l.length
 ·have hil:(i:Int)<(l.length:Int):=by omega
  by_cases h2:i<20
  ·have h2':(i:Int)<20:=by omega
   obtain⟨kb,ko,rfl,hkb,hat⟩:=HK.out.at hlt;obtain⟨P,pk,Q,qk,t0,t1,-,-,-,-⟩:=hat i hlt;have HB:=G (fun h=>HBAD.out i hlt h2 h)
   have HX:=U (l[i].anc.length<=12/\l[i].cds.length<=12->∀j,(hj:j<l.length)->j<i+1->l[j].anc.length<=12/\l[j].cds.length<=12) (fun h j hj h1=>by
    by_cases e:j<i
    ·exact hall.out j hj e
    ·obtain rfl:j=i:=by omega
     exact h)
   have hzz:=HZ.out _ (List.getElem_mem hlt);clear hat hall;generalize l[i]=t at *;generalize t.anc.length=pn at *;generalize t.cds.length=qn at *;by_cases ha:12<pn
   ·have HE:=G (HB.out (by omega))
    have da:decide ((12:Int)<(pn:Int))=true:=by simp;omega
    clear ha HB HX;go_wp2_with fail;go_ret;rw[HE.out];exact⟨rfl,by repeat(first|exact Qt.refl _|refine Qt.drewN ?_ _)⟩
   have da:decide ((12:Int)<(pn:Int))=false:=by simp;omega
   by_cases hc:12<qn
   ·have HE:=G (HB.out (by omega))
    have dc:decide ((12:Int)<(qn:Int))=true:=by simp;omega
    clear ha hc HB HX;go_wp2_with fail;go_ret;rw[HE.out];exact⟨rfl,by repeat(first|exact Qt.refl _|refine Qt.drewN ?_ _)⟩
   have dc:decide ((12:Int)<(qn:Int))=false:=by simp;omega
   have HN:=G (HX.out ⟨by omega,by omega⟩);clear ha hc HB HX;go_wp2_with fail;go_roundw
   case rel=>exact⟨i+1,by omega,by omega,by go_num,G HN.out,by repeat(first|exact Qt.refl _|refine Qt.drewN ?_ _)⟩
   (try simp[intOf])<;>(try omega)
  obtain rfl:i=20:=by omega
  have HE:=U (r=decide (l.length<=6)) (HEND.out (fun j hj h=>hall.out j hj h));have d6:decide ((l.length:Int)<=6)=false:=by simp;omega
  clear hall;go_wp2_with fail;go_ret;have hf:decide (l.length<=6)=false:=decide_eq_false (by omega);rw[HE.out,hf];exact⟨rfl,by repeat(first|exact Qt.refl _|refine Qt.drewN ?_ _)⟩
 obtain rfl:i=l.length:=by omega
 have HE:=U (r=decide (l.length<=6)) (HEND.out (fun j hj h=>hall.out j hj hj));clear hall;go_wp2_with fail;go_ret;rw[HE.out];exact⟨by by_cases h:l.length<=6<;>simp[h]<;>omega,by repeat(first|exact Qt.refl _|refine Qt.drewN ?_ _)⟩
end
section
open Go.RowKit Go.Maps Go.WideMaps Tl
def lG(x:Nrm):Bool:=decide (x.cls.length<=16)&&gF x.dec&&decide (x.exc.length<=12)
theorem VB{x:Nrm}(h:lG x=true):cC x:=by
 unfold lG at h;simp only[Bool.and_eq_true,decide_eq_true_eq]at h;obtain⟨⟨h1,h2⟩,h3⟩:=h;exact⟨by omega,(yZ h2).1,h3⟩
theorem UT(A0:Oa)(k0:Nat)(A1:Oa)(k1:Nat)(A2:Oa)(k2:Nat)(x:Nrm)(w:Wv)(hN:dC w A0 x.cls.length A1 x.dec.length A2 x.exc.length x)(hl:pU x):
  Calls prog 31 #[.agg #[H A0 x.cls.length k0,H A1 x.dec.length k1,H A2 x.exc.length k2]] w (eD (lG x) w):=by
 have B0:By w (w.alloc (.cells #[H A0 x.cls.length k0,H A1 x.dec.length k1,H A2 x.exc.length k2] 28)):=ba _ _;have X0:Box (w.alloc (.cells #[H A0 x.cls.length k0,H A1 x.dec.length k1,H A2 x.exc.length k2] 28)) w.heap.size 28 [H A0 x.cls.length k0,H A1 x.dec.length k1,H A2 x.exc.length k2]:=Box.new _ _ _ rfl;have W0E:∃W0,(w.alloc (.cells #[H A0 x.cls.length k0,H A1 x.dec.length k1,H A2 x.exc.length k2] 28))=W0:=⟨_,rfl⟩;have K1:=G (fun W=>BS A0 x.cls.length k0 W);have K2:=G (fun W(hb:By w W)=>U_ A1 x.dec.length k1 x.dec W (hN.s1.below hb) rfl hl.z1 hl.ze);have K3:=G (fun W=>RO A2 x.exc.length k2 W hl.z2);have EQ:=U (lG x=(decide (x.cls.length<=16)&&gF x.dec&&decide (x.exc.length<=12))) rfl;generalize lG x=r at *;generalize gF x.dec=sm at *;generalize decide (x.cls.length<=16)=sc at *;generalize decide (x.exc.length<=12)=se at *;clear hN hl;go_enter func31,ntmps31;go_wp2_with fail;obtain⟨W0,hW0⟩:=W0E;try rw[hW0]at B0 X0|-
 clear hW0;have d0:=X0.c 0 rfl;have d1:=X0.c 1 rfl;have d2:=X0.c 2 rfl;with_reducible refine(K1.out _).mono ?_
 rintro e W1 ⟨rfl,rfl⟩;cases sc with
 |false=>
  go_wp2_with fail;go_ret;exact⟨cR (by rw[EQ.out];rfl),B0⟩
 |true=>
  go_wp2_with fail;with_reducible refine(K2.out _ B0).mono ?_
  rintro e W1 ⟨rfl,rfl⟩;cases sm with
  |false=>
   go_wp2_with fail;go_ret;exact⟨cR (by rw[EQ.out];rfl),B0⟩
  |true=>
   go_wp2_with fail;with_reducible refine(K3.out _).mono ?_
   rintro e W3 ⟨rfl,hb3⟩;go_wp2_with fail;go_ret;exact⟨cR (by rw[EQ.out];cases se<;>rfl),B0.trans (hb3.mono B0.size)⟩
def iP(x:Nrm)(c:Col)(t:Tlr):Bool:=lG x&&fZ c&&gN [t]
theorem tC{x:Nrm}{c:Col}{t:Tlr}(h:iP x c t=true):cC x/\aZ c/\c.ents.length<=12/\t.anc.length<=12/\t.cds.length<=12:=by
 unfold iP at h;rw[Bool.and_eq_true,Bool.and_eq_true]at h;have h2:=(vP h.2).2 t (by simp);have h3:=y_ h.1.2;exact⟨VB h.1.1,h3.1,h3.2.2.1,h2⟩
theorem WI(w:Wv)(P:Oa)(p:Nat)(Q:Oa)(q:Nat)(t:Tlr)(hP:aB w P t.anc)(hQ:aB w Q t.cds)(n:Nat)(hn:w.heap.size=n):eU (w.alloc (.cells #[H P t.anc.length p,H Q t.cds.length q,I J t.lvl,.bool t.bef] 35)) (Z ⟨n,0,N⟩) [t]:=by
 subst hn;refine⟨[(P,p,Q,q)],rfl,(Box.new w 35 [H P t.anc.length p,H Q t.cds.length q,I J t.lvl,.bool t.bef] rfl).sl,fun i hi hv=>?_⟩;obtain rfl:i=0:=by simp at hi;exact hi
 exact⟨hP.alloc _,hQ.alloc _⟩
theorem s_(V:iT)(x:Nrm)(c:Col)(t:Tlr)(w:Wv)(hS:jQ w V x c t):
  Calls prog 11 #[.agg #[H V.A0 x.cls.length V.k0,H V.A1 x.dec.length V.k1,H V.A2 x.exc.length V.k2,H V.C c.ents.length V.a,H V.B c.grps.length V.b,I J c.base,I J c.second,I J c.third,H V.P t.anc.length V.p,H V.Q t.cds.length V.q,I J t.lvl,.bool t.bef]] w (eD (iP x c t) w):=by
 have B0:By w (w.alloc (.cells #[H V.A0 x.cls.length V.k0,H V.A1 x.dec.length V.k1,H V.A2 x.exc.length V.k2,H V.C c.ents.length V.a,H V.B c.grps.length V.b,I J c.base,I J c.second,I J c.third,H V.P t.anc.length V.p,H V.Q t.cds.length V.q,I J t.lvl,.bool t.bef] 37)):=ba _ _;have X0:Box (w.alloc (.cells #[H V.A0 x.cls.length V.k0,H V.A1 x.dec.length V.k1,H V.A2 x.exc.length V.k2,H V.C c.ents.length V.a,H V.B c.grps.length V.b,I J c.base,I J c.second,I J c.third,H V.P t.anc.length V.p,H V.Q t.cds.length V.q,I J t.lvl,.bool t.bef] 37)) w.heap.size 37 [H V.A0 x.cls.length V.k0,H V.A1 x.dec.length V.k1,H V.A2 x.exc.length V.k2,H V.C c.ents.length V.a,H V.B c.grps.length V.b,I J c.base,I J c.second,I J c.third,H V.P t.anc.length V.p,H V.Q t.cds.length V.q,I J t.lvl,.bool t.bef]:=Box.new _ _ _ rfl;have W0E:∃W0,(w.alloc (.cells #[H V.A0 x.cls.length V.k0,H V.A1 x.dec.length V.k1,H V.A2 x.exc.length V.k2,H V.C c.ents.length V.a,H V.B c.grps.length V.b,I J c.base,I J c.second,I J c.third,H V.P t.anc.length V.p,H V.Q t.cds.length V.q,I J t.lvl,.bool t.bef] 37))=W0:=⟨_,rfl⟩;have K1:=G (fun W(hb:By w W)=>UT V.A0 V.k0 V.A1 V.k1 V.A2 V.k2 x W (hS.nrm.below hb) hS.ln);have K2:=G (fun W(hb:By w W)=>UW V.C c.ents.length V.a V.B c.grps.length V.b c W (hS.col.below hb))
 have K3:=G (fun W(hb:By w W)=>vQ (Z ⟨W.heap.size,0,N⟩) 1 [t] (W.alloc (.cells #[H V.P t.anc.length V.p,H V.Q t.cds.length V.q,I J t.lvl,.bool t.bef] 35)) (WI W V.P V.p V.Q V.q t (hS.anc.1.below hb) (hS.cds.1.below hb) _ rfl) (by simp) (fun u hu=>by
  rw[List.mem_singleton.1 hu]
  exact⟨Nat.le_trans hS.anc.2.1 hS.anc.2.2.1,Nat.le_trans hS.cds.2.1 hS.cds.2.2.1⟩))
 unfold iP;unfold aS at K2;unfold eD at K1|-;simp only[List.length_singleton]at K3;generalize lG x=sx at *;generalize fZ c=sc at *;generalize gN [t]=sf at *;clear hS;go_enter func11,ntmps11;go_upto_region 1 with(fail)
 obtain⟨W0,hW0⟩:=W0E;try rw[hW0]at B0 X0|-
 clear hW0;have d0:=X0.c 0 rfl;have d1:=X0.c 1 rfl;have d2:=X0.c 2 rfl;have d3:=X0.c 3 rfl;have d4:=X0.c 4 rfl;have d5:=X0.c 5 rfl;have d6:=X0.c 6 rfl;have d7:=X0.c 7 rfl;have d8:=X0.c 8 rfl;have d9:=X0.c 9 rfl;have d10:=X0.c 10 rfl;have d11:=X0.c 11 rfl;go_wp2_with fail;with_reducible refine(K1.out W0 B0).mono ?_
 rintro e W1 ⟨rfl,hb1⟩;have B1:=B0.trans (hb1.mono B0.size);clear K1 d0 d1 d2 d3 d4 d5 d6 d7 d8 d9 d10 d11;have X1:=X0.below hb1 X0.lt;have e0:=X1.c 0 rfl;have e1:=X1.c 1 rfl;have e2:=X1.c 2 rfl;have e3:=X1.c 3 rfl;have e4:=X1.c 4 rfl;have e5:=X1.c 5 rfl;have e6:=X1.c 6 rfl;have e7:=X1.c 7 rfl;have e8:=X1.c 8 rfl;have e9:=X1.c 9 rfl;have e10:=X1.c 10 rfl;have e11:=X1.c 11 rfl;cases sx with
 |false=>
  go_wp2_with fail;go_ret;exact⟨cR (by simp),B1⟩
 |true=>
  go_wp2_with fail;with_reducible refine(K2.out W1 B1).mono ?_
  rintro e W2 ⟨rfl,hb2⟩;have B2:=B1.trans (hb2.mono B1.size);clear K2 e0 e1 e2 e3 e4 e5 e6 e7 e8 e9 e10 e11;have X2:=X1.below hb2 X1.lt;have f0:=X2.c 0 rfl;have f1:=X2.c 1 rfl;have f2:=X2.c 2 rfl;have f3:=X2.c 3 rfl;have f4:=X2.c 4 rfl;have f5:=X2.c 5 rfl;have f6:=X2.c 6 rfl;have f7:=X2.c 7 rfl;have f8:=X2.c 8 rfl;have f9:=X2.c 9 rfl;have f10:=X2.c 10 rfl;have f11:=X2.c 11 rfl;cases sc with
  |false=>
   go_wp2_with fail;go_ret;exact⟨cR (by simp),B2⟩
  |true=>
   have B3:=B2.alloc B2.size (.cells #[H V.P t.anc.length V.p,H V.Q t.cds.length V.q,I J t.lvl,.bool t.bef] 35);go_wp2_with fail;with_reducible refine(K3.out W2 B2).mono ?_
   rintro e W3 ⟨rfl,q3,rfl⟩;have B4:=B3.trans ((eF _ q3).mono B3.size);go_wp2_with fail;go_ret;exact⟨cR (by simp),B4⟩
theorem PF(a b c:Int)(v:Bool)(w:Wv):(binOp .neq 77 (.agg #[I J a,I J b,I J c,.bool v]) (.agg #[I J a,I J b,I J c,.bool v])).run prog w=.ok (.bool false) w:=by
 have u3:=underlying3;have a3:=isAgg3;have z3:=sizeOf3;have u4:=underlying4;have a4:=isAgg4;have z4:=sizeOf4;have hS:prog.underlying 77=Z (.struct (prog.fieldsOf 77)):=by kernel_rfl
 have hp:prog.stoodInHeld 77=false:=by kernel_rfl
 rw[run_neq_struct,show(10000:Nat)=9999+1 from rfl,run_equalIn_agg w 9999 77 _ _ hS hp];simp only[Program.fieldsOf,underlying77];go_simp
theorem PG(s:ByteArray)(a b:Int)(w:Wv):(binOp .neq 98 (.agg #[.string s,I J a,I J b]) (.agg #[.string s,I J a,I J b])).run prog w=.ok (.bool false) w:=by
 have u3:=underlying3;have a3:=isAgg3;have z3:=sizeOf3;have u4:=underlying9;have a4:=isAgg9;have z4:=sizeOf9;have hS:prog.underlying 98=Z (.struct (prog.fieldsOf 98)):=by kernel_rfl
 have hp:prog.stoodInHeld 98=false:=by kernel_rfl
 rw[run_neq_struct,show(10000:Nat)=9999+1 from rfl,run_equalIn_agg w 9999 98 _ _ hS hp];simp only[Program.fieldsOf,underlying98];go_simp
theorem TT(A:Oa)(n a:Nat)(B:Oa)(b:Nat)(zs:List Elt)(w:Wv)(hA:cB w A zs)(hB:cB w B zs)(hn:zs.length=n)(hb:n<=1048576):
  Calls prog 56 #[H A n a,H B n b] w fun e w'=>e=.returned (.bool true)/\Qt w w':=by
 subst hn;have HA:=G hA;have HB:=G hB;have hg:prog.eqGuardType prog.depth 77=false:=by kernel_rfl
 have hneq:=PF;clear hA hB;go_enter func56,ntmps56;go_wp2_with fail;go_loopw [5] (fun u wr=>∃i:Nat,i<=zs.length/\u=I J i/\Qt w wr) (fun u _=>zs.length-(intOf u).toNat)
 case atStart=>exact⟨0,Nat.zero_le _,rfl,Qt.refl _⟩
 obtain⟨i,hi,rfl,hq⟩:=hrel;by_cases hlt:i<zs.length
 ·obtain⟨b1,o1,rfl,hbl,hcell⟩:=(HA.out.below hq.below).at hlt
  obtain⟨c1,c2,c3,c4⟩:=hcell i hlt;obtain⟨b2,o2,rfl,hbl2,hcell2⟩:=(HB.out.below hq.below).at hlt;obtain⟨d1,d2,d3,d4⟩:=hcell2 i hlt;have q2:(i:Int)<(zs.length:Int):=by omega
  clear hcell hcell2;generalize zs[i]=z at *;obtain⟨zp,zs',zt,zv⟩:=z;dsimp only at *;have hneq1:=fun W=>hneq zp zs' zt zv W
  clear hneq;go_wp2_with fail;go_quiet(fail);go_wp2_with fail;go_roundw
  case rel=>exact⟨i+1,by omega,by go_num,hq.drewN _⟩
  simp[intOf];omega
 go_wp2_with fail;go_ret;exact⟨rfl,hq⟩
theorem TS(A:Oa)(n a:Nat)(B:Oa)(m b:Nat)(A':Oa)(n' a':Nat)(B':Oa)(m' b':Nat)(c:Col)(w:Wv)(h:aY w A n B m c)(h':aY w A' n' B' m' c)(hz:aZ c):
  Calls prog 15 #[aS A n a B m b c,aS A' n' a' B' m' b' c] w fun e w'=>e=.returned (.bool true)/\By w w':=by
 obtain rfl:n'=n:=h'.hn.symm.trans h.hn;obtain rfl:m'=m:=h'.hm.symm.trans h.hm;have hm:=h.hm;have hn:=h.hn;have B0:By w ((w.alloc (.cells #[H A n' a,H B m' b,I J c.base,I J c.second,I J c.third] 32)).alloc (.cells #[H A' n' a',H B' m' b',I J c.base,I J c.second,I J c.third] 32)):=(ba _ _).alloc (by simp) _;have X0:Box ((w.alloc (.cells #[H A n' a,H B m' b,I J c.base,I J c.second,I J c.third] 32)).alloc (.cells #[H A' n' a',H B' m' b',I J c.base,I J c.second,I J c.third] 32)) w.heap.size 32 [H A n' a,H B m' b,I J c.base,I J c.second,I J c.third]:=dF (Box.new w 32 [H A n' a,H B m' b,I J c.base,I J c.second,I J c.third] rfl) _;have X1:Box ((w.alloc (.cells #[H A n' a,H B m' b,I J c.base,I J c.second,I J c.third] 32)).alloc (.cells #[H A' n' a',H B' m' b',I J c.base,I J c.second,I J c.third] 32)) (w.heap.size+1) 32 [H A' n' a',H B' m' b',I J c.base,I J c.second,I J c.third]:=Box.new _ _ _ (by simp);have W0E:∃W0,(w.alloc (.cells #[H A n' a,H B m' b,I J c.base,I J c.second,I J c.third] 32)).alloc (.cells #[H A' n' a',H B' m' b',I J c.base,I J c.second,I J c.third] 32)=W0:=⟨_,rfl⟩;have HE:=G h.ents;have HE':=G h'.ents;have HG:=G h.grps;have HG':=G h'.grps;have hgn:=PG;have HZ:=G hz.e;have hnz:=hz.n;have hmz:=hz.m;have hs:=G h.hs;unfold aS;clear h h' hz;obtain⟨es,gs,cb,cs,ct⟩:=c;dsimp only at *;subst hn hm;go_enter func15,ntmps15;go_upto_region 1 with(fail)
 obtain⟨W0,hW0⟩:=W0E;try rw[hW0]at B0 X0 X1|-
 clear hW0;have HX0:=G X0;have HX1:=G X1;have hx0:=X0.lt;have hx1:=X1.lt;have HB0:=G B0;have c0:=X0.c 0 rfl;have c1:=X0.c 1 rfl;have c2:=X0.c 2 rfl;have c3:=X0.c 3 rfl;have c4:=X0.c 4 rfl;have d0:=X1.c 0 rfl;have d1:=X1.c 1 rfl;have d2:=X1.c 2 rfl;have d3:=X1.c 3 rfl;have d4:=X1.c 4 rfl;clear X0 X1 B0;go_wp2_with fail;clear c0 c1 c2 c3 c4 d0 d1 d2 d3 d4;have hg:prog.eqGuardType prog.depth 98=false:=by kernel_rfl
 go_loopw [5] (fun u wr=>∃i:Nat,i<=gs.length/\u=I J i/\Qt W0 wr) (fun u _=>gs.length-(intOf u).toNat)
 case atStart=>exact⟨0,Nat.zero_le _,rfl,Qt.refl _⟩
 obtain⟨i,hi,rfl,hq⟩:=hrel;have c1:=(HX0.out.below (B:=_) hq.below hx0).c 1 rfl;have d1:=(HX1.out.below (B:=_) hq.below hx1).c 1 rfl;by_cases hlt:i<gs.length
 ·have HBW:=HB0.out.trans (hq.below.mono HB0.out.size)
  obtain⟨b1,o1,rfl,hbl,hcell⟩:=(HG.out.below HBW).at hlt;obtain⟨e1,e2,e3⟩:=hcell i hlt;obtain⟨b2,o2,rfl,hbl2,hcell2⟩:=(HG'.out.below HBW).at hlt;obtain⟨f1,f2,f3⟩:=hcell2 i hlt;have q2:(i:Int)<(gs.length:Int):=by omega
  clear hcell hcell2 HBW;generalize gs[i]=g at *;obtain⟨gn,glo,ghi⟩:=g;dsimp only at *;have hgn1:=fun W=>hgn gn glo ghi W
  clear hgn;go_wp2_with fail;go_quiet(fail);go_wp2_with fail;go_roundw
  case rel=>exact⟨i+1,by omega,by go_num,hq.drewN _⟩
  simp[intOf];omega
 have HB1:=G (HB0.out.trans (hq.below.mono HB0.out.size));have HXa:=G (HX0.out.below (B:=_) hq.below hx0);have HXb:=G (HX1.out.below (B:=_) hq.below hx1);clear HX0 HX1 HB0 hq HG HG' hs hgn hg;go_wp2_with fail;clear c1 d1;have hy0:=HXa.out.lt;have hy1:=HXb.out.lt;go_loopw [6] (fun u wx=>∃i:Nat,i<=es.length/\u=I J i/\By wr wx) (fun u _=>es.length-(intOf u).toNat)
 case atStart=>exact⟨0,Nat.zero_le _,rfl,Below.refl _ _⟩
 obtain⟨j,hj,rfl,hb⟩:=hrel;have hk0:=(HXa.out.below (B:=_) hb hy0).lt;have hk1:=(HXb.out.below (B:=_) hb hy1).lt;have c0:=(HXa.out.below (B:=_) hb hy0).c 0 rfl;have d0:=(HXb.out.below (B:=_) hb hy1).c 0 rfl;have HBW:=G (HB1.out.trans (hb.mono HB1.out.size));have HBX:=G hb;clear hb;by_cases hjt:j<es.length
 ·obtain⟨b1,o1,rfl,hbl,hcell⟩:=(HE.out.below HBW.out).at hjt
  obtain⟨C,cc,E,dd,c1,c2,hC,hE⟩:=hcell j hjt;obtain⟨b2,o2,rfl,hbl2,hcell2⟩:=(HE'.out.below HBW.out).at hjt;obtain⟨C',cc',E',dd',c1',c2',hC',hE'⟩:=hcell2 j hjt;obtain⟨z1,z2⟩:=HZ.out j hjt;have q2:(j:Int)<(es.length:Int):=by omega
  have HC:=G hC;have HC':=G hC';have SE:=G (fun W(hb:By wr W)=>TT E es[j].elems.length dd E' dd' es[j].elems W (hE.below hb) (hE'.below hb) rfl z2);clear hcell hcell2 hC hC' hE hE';generalize es[j].codes=zs at *;generalize es[j].elems.length=el at *;go_wp2_with fail;go_cut [7,8]from 65 to 114 (fun v7 v8 wy=>∃p q,v7=.pointer (Z ⟨p,0,N⟩)/\v8=.pointer (Z ⟨q,0,N⟩)/\Box wy p 75 [H C zs.length cc,H E el dd]/\Box wy q 75 [H C' zs.length cc',H E' el dd']/\By wr wy)
  case first=>
   go_wp2_with fail;go_region
   all_goals
    go_wp2_with fail;go_meet
    first
     |exact⟨wr.heap.size,wr.heap.size+1,rfl,rfl,dF (Box.new wr _ _ rfl) _,Box.new _ _ _ (by simp),((ba _ _).alloc (by simp) _).drew⟩
     |exact⟨wr.heap.size+1,wr.heap.size,rfl,rfl,Box.new _ _ _ (by simp),dF (Box.new wr _ _ rfl) _,((ba _ _).alloc (by simp) _).drew⟩
  case rest=>
  obtain⟨p,q,rfl,rfl,hp,hq,hbc⟩:=hcut;have HP:=G hp;have HQ:=G hq;have HBc:=G hbc;have SE1:=G (SE.out wc hbc);have c5:=hp.c 0 rfl;have c6:=hp.c 1 rfl;have d5:=hq.c 0 rfl;have d6:=hq.c 1 rfl;have hpl:=hp.lt;have hql:=hq.lt;clear hp hq hbc SE c0 d0 c1 c2 c1' c2';go_wp2_with fail;with_reducible refine SE1.out.mono ?_
  rintro e Wd ⟨rfl,hqd⟩;have c7:=(HP.out.below (B:=_) hqd.below hpl).c 0 rfl;go_wp2_with fail;clear c5 c6 d5 d6 c7;go_loopw [9] (fun u wy=>∃k:Nat,k<=zs.length/\u=I J k/\Qt wc wy) (fun u _=>zs.length-(intOf u).toNat)
  case atStart=>exact⟨0,Nat.zero_le _,rfl,hqd⟩
  obtain⟨k,hk,rfl,hqk⟩:=hrel;have c5:=(HP.out.below (B:=_) hqk.below hpl).c 0 rfl;have d5:=(HQ.out.below (B:=_) hqk.below hql).c 0 rfl;by_cases hkt:k<zs.length
  ·obtain⟨b3,o3,rfl,hcc⟩:=(HC.out.below (HBc.out.trans (hqk.below.mono HBc.out.size))).at hkt
   have e1:=hcc k hkt;obtain⟨b4,o4,rfl,hcc2⟩:=(HC'.out.below (HBc.out.trans (hqk.below.mono HBc.out.size))).at hkt;have e2:=hcc2 k hkt;have q3:(k:Int)<(zs.length:Int):=by omega
   clear hcc hcc2;generalize zs[k]=z at *;go_wp2_with fail;go_quiet(fail);go_wp2_with fail;go_roundw
   case rel=>exact⟨k+1,by omega,by go_num,hqk.drewN _⟩
   simp[intOf];omega
  have HBf:=G (HBX.out.trans ((HBc.out.trans (hqk.below.mono HBc.out.size)).mono HBX.out.size));go_wp2_with fail;go_roundw
  case rel=>exact⟨j+1,by omega,by go_num,HBf.out⟩
  simp[intOf];omega
 go_wp2_with fail;go_ret;exact⟨rfl,HBW.out⟩
end
section
open Go.RowKit Go.Maps Go.WideMaps Tl Pa
theorem yN{k j:Nat}{fn:Func}(hr:fn.results=#[.cell k 32,.cell j 47])(tmps:Array Value)(w:Wv){b d:Nat}{v0 v1 v2 v3 v4 y0 y1:Value}(ha:tmps.getD k undef=.pointer (Z ⟨b,0,N⟩))(hd:tmps.getD j undef=.pointer (Z ⟨d,0,N⟩))
  (c0:w.cell? ⟨b,0,N⟩=Z v0) (c1:w.cell? ⟨b,1,N⟩=Z v1) (c2:w.cell? ⟨b,2,N⟩=Z v2) (c3:w.cell? ⟨b,3,N⟩=Z v3) (c4:w.cell? ⟨b,4,N⟩=Z v4) (d0:w.cell? ⟨d,0,N⟩=Z y0) (d1:w.cell? ⟨d,1,N⟩=Z y1) :
  (results fn tmps).run prog w=.ok (.tuple #[.agg #[v0,v1,v2,v3,v4],.agg #[y0,y1]]) w:=by
 unfold results;rw[hr];simp only[ha,hd,List.mapM_toArray,List.mapM_cons,List.mapM_nil,asAddr];go_simp
def tR(r:Int×Int×Col)(w:Wv)(e:Ending)(w':Wv):Prop:=∃A a B b,e=.returned (.tuple #[aS A r.2.2.ents.length a B r.2.2.grps.length b r.2.2,.agg #[I J r.1,I J r.2.1]])/\aY w' A r.2.2.ents.length B r.2.2.grps.length r.2.2/\By w w'
structure ApS(w W0:Wv)(x:Nrm)(l:List Tlr)(r:Int×Int×Col)(n m i:Nat)(wr:Wv)(A:Oa)(a:Nat)(B:Oa)(b:Nat)(c:Col):Prop where
 eq:iE x c (l.drop i) i=r
 box:Box wr (w.heap.size+1) 32 [H A c.ents.length a,H B c.grps.length b,I J c.base,I J c.second,I J c.third]
 fr:fD W0.heap.size wr A B c
 sz:aZ c
 n:c.ents.length<=n+i
 m:c.grps.length=m
 b:By w wr
 ch:Chg (fun q=>q=w.heap.size+1) W0 wr
theorem DM(A0:Oa)(n0 k0:Nat)(A1:Oa)(n1 k1:Nat)(A2:Oa)(n2 k2:Nat)(x:Nrm)(C:Oa)(n a:Nat)(B:Oa)(m b:Nat)(c:Col)(K:Oa)(k:Nat)(l:List Tlr)(w:Wv)(hN:dC w A0 n0 A1 n1 A2 n2 x)(hz:cC x)(hL:cK w)(hC:aY w C n B m c)(hcz:aZ c)(hK:eU w K l)
  (hts:∀t∈l,t.anc.length<=1024/\t.cds.length<=1024/\(∀z∈t.anc,iok z)/\∀z∈t.cds,iok z) (hgn:n+l.length<=1048576) :
  Calls prog 17 #[.agg #[H A0 n0 k0,H A1 n1 k1,H A2 n2 k2],aS C n a B m b c,H K l.length k] w (tR (iE x c l 0) w):=by
 have B0:By w ((((w.alloc (.cells #[H A0 n0 k0,H A1 n1 k1,H A2 n2 k2] 28)).alloc (.cells #[H C n a,H B m b,I J c.base,I J c.second,I J c.third] 32)).alloc (.cells #[H none 0 0,H none 0 0,I J 0,I J 0,I J 0] 32)).alloc (.cells #[I J 0,I J 0] 47)):=(((ba _ _).alloc (by simp) _).alloc (by simp<;>omega) _).alloc (by simp<;>omega) _;have X0:Box ((((w.alloc (.cells #[H A0 n0 k0,H A1 n1 k1,H A2 n2 k2] 28)).alloc (.cells #[H C n a,H B m b,I J c.base,I J c.second,I J c.third] 32)).alloc (.cells #[H none 0 0,H none 0 0,I J 0,I J 0,I J 0] 32)).alloc (.cells #[I J 0,I J 0] 47)) w.heap.size 28 [H A0 n0 k0,H A1 n1 k1,H A2 n2 k2]:=(((Box.new w 28 [H A0 n0 k0,H A1 n1 k1,H A2 n2 k2] rfl).below (ba _ _) (by simp)).below (ba _ _) (by simp<;>omega)).below (ba _ _) (by simp<;>omega);have X1:Box ((((w.alloc (.cells #[H A0 n0 k0,H A1 n1 k1,H A2 n2 k2] 28)).alloc (.cells #[H C n a,H B m b,I J c.base,I J c.second,I J c.third] 32)).alloc (.cells #[H none 0 0,H none 0 0,I J 0,I J 0,I J 0] 32)).alloc (.cells #[I J 0,I J 0] 47)) (w.heap.size+1) 32 [H C n a,H B m b,I J c.base,I J c.second,I J c.third]:=((Box.new (w.alloc (.cells #[H A0 n0 k0,H A1 n1 k1,H A2 n2 k2] 28)) 32 [H C n a,H B m b,I J c.base,I J c.second,I J c.third] (by simp)).below (ba _ _) (by simp)).below (ba _ _) (by simp<;>omega);have X2:Box ((((w.alloc (.cells #[H A0 n0 k0,H A1 n1 k1,H A2 n2 k2] 28)).alloc (.cells #[H C n a,H B m b,I J c.base,I J c.second,I J c.third] 32)).alloc (.cells #[H none 0 0,H none 0 0,I J 0,I J 0,I J 0] 32)).alloc (.cells #[I J 0,I J 0] 47)) (w.heap.size+2) 32 [H none 0 0,H none 0 0,I J 0,I J 0,I J 0]:=(Box.new ((w.alloc (.cells #[H A0 n0 k0,H A1 n1 k1,H A2 n2 k2] 28)).alloc (.cells #[H C n a,H B m b,I J c.base,I J c.second,I J c.third] 32)) 32 [H none 0 0,H none 0 0,I J 0,I J 0,I J 0] (by simp)).below (ba _ _) (by simp);have X3:Box ((((w.alloc (.cells #[H A0 n0 k0,H A1 n1 k1,H A2 n2 k2] 28)).alloc (.cells #[H C n a,H B m b,I J c.base,I J c.second,I J c.third] 32)).alloc (.cells #[H none 0 0,H none 0 0,I J 0,I J 0,I J 0] 32)).alloc (.cells #[I J 0,I J 0] 47)) (w.heap.size+3) 47 [I J 0,I J 0]:=Box.new (((w.alloc (.cells #[H A0 n0 k0,H A1 n1 k1,H A2 n2 k2] 28)).alloc (.cells #[H C n a,H B m b,I J c.base,I J c.second,I J c.third] 32)).alloc (.cells #[H none 0 0,H none 0 0,I J 0,I J 0,I J 0] 32)) 47 [I J 0,I J 0] (by simp);have W0E:∃W0,((((w.alloc (.cells #[H A0 n0 k0,H A1 n1 k1,H A2 n2 k2] 28)).alloc (.cells #[H C n a,H B m b,I J c.base,I J c.second,I J c.third] 32)).alloc (.cells #[H none 0 0,H none 0 0,I J 0,I J 0,I J 0] 32)).alloc (.cells #[I J 0,I J 0] 47))=W0:=⟨_,rfl⟩;have K6:=G (fun W(hb:By w W)=>uZ C n a B m b c W (hC.below hb) hcz);have KS:=G (fun W(hb:By w W)A a B b(c:Col)P pk Q qk(t:Tlr)(hC:aY W A c.ents.length B c.grps.length c)(hcz:aZ c)(hP:aB W P t.anc)(hQ:aB W Q t.cds)(h:t.anc.length<=1024/\t.cds.length<=1024/\(∀z∈t.anc,iok z)/\∀z∈t.cds,iok z)=>pI A0 n0 k0 A1 n1 k1 A2 n2 k2 x A c.ents.length a B c.grps.length b c P pk Q qk t W (hN.below hb) hz (hL.below hb) hC hcz hP hQ (by omega) (by omega) h.2.2.1 h.2.2.2 (by have:=kZ x c t.anc;omega));have HT:=G (fun W(hb:By w W)=>hK.below hb);unfold mL at KS;unfold nW at K6;unfold aS at KS K6|-;have HTS:=G hts;have HCZ:=G hcz;have hCn:=hC.hn;have hCm:=hC.hm;have hcm:=hcz.m;obtain⟨r,hr⟩:∃r,iE x c l 0=r:=⟨_,rfl⟩;have HR:=G hr;have HCN:=G hCn;have HCM:=G hCm;rw[hr];clear hr hN hC hL hz hcz hK hts hCn hCm;go_enter func17,ntmps17;go_upto_region 1 with(fail)
 obtain⟨W0,hW0⟩:=W0E;try rw[hW0]at B0 X0 X1 X2 X3|-
 clear hW0;have l0:=X0.lt;have l1:=X1.lt;have l2:=X2.lt;have l3:=X3.lt;have HB0:=G B0;have HX0:=G X0;have HX1:=G X1;have HX2:=G X2;have HX3:=G X3;have hw0:=B0.size;clear X0 X1 X2 X3 B0;have c0:=HX1.out.c 0 rfl;have c1:=HX1.out.c 1 rfl;have c2:=HX1.out.c 2 rfl;have c3:=HX1.out.c 3 rfl;have c4:=HX1.out.c 4 rfl;have C6:=G (K6.out W0 HB0.out);clear K6;go_wp2_with fail;with_reducible refine C6.out.mono ?_
 rintro e Wf ⟨A',a',B',b',base,zz,top,rfl,hcp,hgr,-,hca,hz1,hz2,hb1⟩;clear C6 c0 c1 c2 c3 c4;have HFR:=GQ hcp hgr hz1 hz2 hca.hs;have hX1f:=HX1.out.below hb1 HX1.out.lt;have hb1s:=hb1.size;have g0:=hX1f.c 0 rfl;have g1:=hX1f.c 1 rfl;have g2:=hX1f.c 2 rfl;have g3:=hX1f.c 3 rfl;have g4:=hX1f.c 4 rfl;have f0:=hX1f.free 0;have f1:=hX1f.free 1;have f2:=hX1f.free 2;have f3:=hX1f.free 3;have f4:=hX1f.free 4;have CH:Chg (fun q=>q=w.heap.size+1) Wf (((((Wf.setCell ⟨w.heap.size+1,0,none⟩ (H A' c.ents.length a')).setCell ⟨w.heap.size+1,1,none⟩ (H B' c.grps.length b')).setCell ⟨w.heap.size+1,2,none⟩ (I J c.base)).setCell ⟨w.heap.size+1,3,none⟩ (I J c.second)).setCell ⟨w.heap.size+1,4,none⟩ (I J c.third)):=Chg.of_grown (aG (p:=⟨w.heap.size+1,4,none⟩) (aG (p:=⟨w.heap.size+1,3,none⟩) (aG (p:=⟨w.heap.size+1,2,none⟩) (aG (p:=⟨w.heap.size+1,1,none⟩) (aG (p:=⟨w.heap.size+1,0,none⟩) (aN Wf _) _) _) _) _) _) (fun q e=>(Option.some.inj e).symm);have XC:Box (((((Wf.setCell ⟨w.heap.size+1,0,none⟩ (H A' c.ents.length a')).setCell ⟨w.heap.size+1,1,none⟩ (H B' c.grps.length b')).setCell ⟨w.heap.size+1,2,none⟩ (I J c.base)).setCell ⟨w.heap.size+1,3,none⟩ (I J c.second)).setCell ⟨w.heap.size+1,4,none⟩ (I J c.third)) (w.heap.size+1) 32 [H A' c.ents.length a',H B' c.grps.length b',I J c.base,I J c.second,I J c.third]:=(((((hX1f.set 0 (H A' c.ents.length a')).set 1 (H B' c.grps.length b')).set 2 (I J c.base)).set 3 (I J c.second)).set 4 (I J c.third));have BC:By w (((((Wf.setCell ⟨w.heap.size+1,0,none⟩ (H A' c.ents.length a')).setCell ⟨w.heap.size+1,1,none⟩ (H B' c.grps.length b')).setCell ⟨w.heap.size+1,2,none⟩ (I J c.base)).setCell ⟨w.heap.size+1,3,none⟩ (I J c.second)).setCell ⟨w.heap.size+1,4,none⟩ (I J c.third)):=(HB0.out.trans (hb1.mono HB0.out.size)).trans (Chg.below CH (n:=w.heap.size) (by omega) (fun k(hk:k=w.heap.size+1)=>by omega));have FC:=HFR.chg CH (fun q(hq:q=w.heap.size+1)=>by omega);have CC:Chg (fun q=>q=w.heap.size+1) W0 (((((Wf.setCell ⟨w.heap.size+1,0,none⟩ (H A' c.ents.length a')).setCell ⟨w.heap.size+1,1,none⟩ (H B' c.grps.length b')).setCell ⟨w.heap.size+1,2,none⟩ (I J c.base)).setCell ⟨w.heap.size+1,3,none⟩ (I J c.second)).setCell ⟨w.heap.size+1,4,none⟩ (I J c.third)):=(Chg.of_below hb1).trans CH;have WE1:∃Wc,(((((Wf.setCell ⟨w.heap.size+1,0,none⟩ (H A' c.ents.length a')).setCell ⟨w.heap.size+1,1,none⟩ (H B' c.grps.length b')).setCell ⟨w.heap.size+1,2,none⟩ (I J c.base)).setCell ⟨w.heap.size+1,3,none⟩ (I J c.second)).setCell ⟨w.heap.size+1,4,none⟩ (I J c.third))=Wc:=⟨_,rfl⟩;clear hcp hgr hca hz1 hz2 CH HFR hb1 hX1f;go_upto_region 2 with(fail)
 obtain⟨Wc,hWc⟩:=WE1;rw[hWc]at XC BC FC CC|-;clear hWc f0 f1 f2 f3 f4 g0 g1 g2 g3 g4;have HS0:=U (ApS w W0 x l r n m 0 Wc A' a' B' b' c) (⟨by rw[List.drop_zero];exact HR.out,XC,FC,HCZ.out,by have:=HCN.out;omega,HCM.out,BC,CC⟩);clear XC BC FC CC HR HCZ;go_wp2_with fail;go_loopw [15] (fun u wr=>∃i:Nat,i<=l.length/\u=I J i/\∃A a B b c,ApS w W0 x l r n m i wr A a B b c) (fun u _=>l.length-(intOf u).toNat)
 case atStart=>exact⟨0,Nat.zero_le _,rfl,_,_,_,_,_,HS0.out⟩
 as_aux_lemma=>
 obtain⟨i,hi,rfl,A,a,B,b,c,hS⟩:=hrel;have HS:=G hS;have hwr:=hS.b.size;have hch:=hS.ch.size;have s1:=hS.box;clear hS HS0;by_cases hlt:i<l.length
 ·obtain⟨kb,ko,rfl,hkb,hat⟩:=(HT.out wr HS.out.b).at hlt
  obtain⟨P,pk,Q,qk,t0,t1,t2,t3,hP,hQ⟩:=hat i hlt;have HEQ:=U (r=if(cZ x c l[i]).1≠0 then((cZ x c l[i]).1,(i:Int),col0)else iE x (cZ x c l[i]).2 (l.drop (i+1)) (i+1)) (by rw[<-HS.out.eq,DK hlt]);have HTI:=G (HTS.out _ (List.getElem_mem hlt));clear hat;generalize l[i]=t at *;have XA:Box (wr.alloc (.cells #[H P t.anc.length pk,H Q t.cds.length qk,I J t.lvl,.bool t.bef] 35)) wr.heap.size 35 [H P t.anc.length pk,H Q t.cds.length qk,I J t.lvl,.bool t.bef]:=Box.new wr 35 [H P t.anc.length pk,H Q t.cds.length qk,I J t.lvl,.bool t.bef] rfl;have BA:By wr (wr.alloc (.cells #[H P t.anc.length pk,H Q t.cds.length qk,I J t.lvl,.bool t.bef] 35)):=ba _ _;have WE2:∃Wa,wr.alloc (.cells #[H P t.anc.length pk,H Q t.cds.length qk,I J t.lvl,.bool t.bef] 35)=Wa:=⟨_,rfl⟩;have hPa:=hP.below BA;have hQa:=hQ.below BA;obtain⟨pn,hpn⟩:∃pn,t.anc.length=pn:=⟨_,rfl⟩;obtain⟨qn,hqn⟩:∃qn,t.cds.length=qn:=⟨_,rfl⟩;have KS1:=fun W hb A a B b c hC hcz hP hQ h=>KS.out W hb A a B b c P pk Q qk t hC hcz hP hQ h
  rw[hpn]at t0 XA BA WE2 KS1 hPa hQa;rw[hqn]at t1 XA BA WE2 KS1 hPa hQa;have HKS:=G KS1;have HPN:=G hpn;have HQN:=G hqn;clear hpn hqn KS1 hP hQ;go_upto_region 6 with(fail)
  obtain⟨Wa,hWa⟩:=WE2;rw[hWa]at XA BA hPa hQa|-;clear hWa t0 t1 t2 t3 s1;have a1:=HS.out.box.below BA HS.out.box.lt;have a0:=(HS.out.ch.box HX0.out (fun(e:w.heap.size=w.heap.size+1)=>by omega)).below BA (by omega);have a2:=(HS.out.ch.box HX2.out (fun(e:w.heap.size+2=w.heap.size+1)=>by omega)).below BA (by omega);have a3:=(HS.out.ch.box HX3.out (fun(e:w.heap.size+3=w.heap.size+1)=>by omega)).below BA (by omega);have d0:=a1.c 0 rfl;have d1:=a1.c 1 rfl;have d2:=a1.c 2 rfl;have d3:=a1.c 3 rfl;have d4:=a1.c 4 rfl;have e0:=a0.c 0 rfl;have e1:=a0.c 1 rfl;have e2:=a0.c 2 rfl;have h0:=XA.c 0 rfl;have h1:=XA.c 1 rfl;have h2:=XA.c 2 rfl;have h3:=XA.c 3 rfl;have hba:=HS.out.b.trans (BA.mono hwr);have KC:=G (HKS.out Wa hba A a B b c (HS.out.fr.below BA).here HS.out.sz (by have:=HPN.out;subst this;exact hPa) (by have:=HQN.out;subst this;exact hQa) (by have h:=HTI.out;rw[HPN.out,HQN.out]at h;exact h));have HA1:=G a1;have HA2:=G a2;have HA3:=G a3;have HBA:=G hba;have HCA:=G (HS.out.ch.trans (Chg.of_below BA));have HST:=G (fun h=>VO (x:=x) (c:=c) (t:=t) h);have hws:=BA.size;have hla:=a3.lt;clear a1 a2 a3 a0 hba BA XA HKS hPa hQa KS HTI HTS;generalize cZ x c t=sv at *;obtain⟨en,c2⟩:=sv;go_wp2_with fail;with_reducible refine KC.out.mono ?_
  (try dsimp only);rintro e W2 ⟨A2,a2,B2,b2,rfl,-,hfr,hb2⟩;clear KC d0 d1 d2 d3 d4 e0 e1 e2 h0 h1 h2 h3;have hb2s:=hb2.size;have y1:=HA1.out.below hb2 HA1.out.lt;have y2:=HA2.out.below hb2 HA2.out.lt;have y3:=HA3.out.below hb2 HA3.out.lt;have g0:=y1.c 0 rfl;have g1:=y1.c 1 rfl;have g2:=y1.c 2 rfl;have g3:=y1.c 3 rfl;have g4:=y1.c 4 rfl;have f0:=y1.free 0;have f1:=y1.free 1;have f2:=y1.free 2;have f3:=y1.free 3;have f4:=y1.free 4;have CH:Chg (fun q=>q=w.heap.size+1) W2 (((((W2.setCell ⟨w.heap.size+1,0,none⟩ (H A2 c2.ents.length a2)).setCell ⟨w.heap.size+1,1,none⟩ (H B2 c2.grps.length b2)).setCell ⟨w.heap.size+1,2,none⟩ (I J c2.base)).setCell ⟨w.heap.size+1,3,none⟩ (I J c2.second)).setCell ⟨w.heap.size+1,4,none⟩ (I J c2.third)):=Chg.of_grown (aG (p:=⟨w.heap.size+1,4,none⟩) (aG (p:=⟨w.heap.size+1,3,none⟩) (aG (p:=⟨w.heap.size+1,2,none⟩) (aG (p:=⟨w.heap.size+1,1,none⟩) (aG (p:=⟨w.heap.size+1,0,none⟩) (aN W2 _) _) _) _) _) _) (fun q e=>(Option.some.inj e).symm);have XD:Box (((((W2.setCell ⟨w.heap.size+1,0,none⟩ (H A2 c2.ents.length a2)).setCell ⟨w.heap.size+1,1,none⟩ (H B2 c2.grps.length b2)).setCell ⟨w.heap.size+1,2,none⟩ (I J c2.base)).setCell ⟨w.heap.size+1,3,none⟩ (I J c2.second)).setCell ⟨w.heap.size+1,4,none⟩ (I J c2.third)) (w.heap.size+1) 32 [H A2 c2.ents.length a2,H B2 c2.grps.length b2,I J c2.base,I J c2.second,I J c2.third]:=(((((y1.set 0 (H A2 c2.ents.length a2)).set 1 (H B2 c2.grps.length b2)).set 2 (I J c2.base)).set 3 (I J c2.second)).set 4 (I J c2.third));have BD:By w (((((W2.setCell ⟨w.heap.size+1,0,none⟩ (H A2 c2.ents.length a2)).setCell ⟨w.heap.size+1,1,none⟩ (H B2 c2.grps.length b2)).setCell ⟨w.heap.size+1,2,none⟩ (I J c2.base)).setCell ⟨w.heap.size+1,3,none⟩ (I J c2.second)).setCell ⟨w.heap.size+1,4,none⟩ (I J c2.third)):=(HBA.out.trans (hb2.mono HBA.out.size)).trans (Chg.below CH (n:=w.heap.size) (by omega) (fun k(hk:k=w.heap.size+1)=>by omega));have FD:=fD.low (fD.chg (N:=Wa.heap.size) hfr CH (fun q(hq:q=w.heap.size+1)=>by omega)) (by omega:W0.heap.size<=Wa.heap.size);have CD:Chg (fun q=>q=w.heap.size+1) W0 (((((W2.setCell ⟨w.heap.size+1,0,none⟩ (H A2 c2.ents.length a2)).setCell ⟨w.heap.size+1,1,none⟩ (H B2 c2.grps.length b2)).setCell ⟨w.heap.size+1,2,none⟩ (I J c2.base)).setCell ⟨w.heap.size+1,3,none⟩ (I J c2.second)).setCell ⟨w.heap.size+1,4,none⟩ (I J c2.third)):=(HCA.out.trans (Chg.of_below hb2)).trans CH;have Y2:=CH.box y2 (fun(e:w.heap.size+2=w.heap.size+1)=>by omega);have Y3:=CH.box y3 (fun(e:w.heap.size+3=w.heap.size+1)=>by omega);have WE3:∃Wd,(((((W2.setCell ⟨w.heap.size+1,0,none⟩ (H A2 c2.ents.length a2)).setCell ⟨w.heap.size+1,1,none⟩ (H B2 c2.grps.length b2)).setCell ⟨w.heap.size+1,2,none⟩ (I J c2.base)).setCell ⟨w.heap.size+1,3,none⟩ (I J c2.second)).setCell ⟨w.heap.size+1,4,none⟩ (I J c2.third))=Wd:=⟨_,rfl⟩;have HXD:=G XD;have HBD:=G BD;have HFD:=G FD;have HCD:=G CD;have HY2:=G Y2;have HY3:=G Y3;have HWE:=G WE3;clear hfr hb2 CH y1 y2 y3 XD BD FD CD Y2 Y3 WE3;by_cases q1:en=0
  ·subst q1
   have HEQ2:=U (iE x c2 (l.drop (i+1)) (i+1)=r) (by rw[HEQ.out,if_neg (by simp)]);go_upto_region 7 with(fail)
   obtain⟨Wd,hWd⟩:=HWE.out;rw[hWd]at HXD HBD HFD HCD HY2 HY3|-;clear hWd f0 f1 f2 f3 f4 g0 g1 g2 g3 g4 HWE;obtain⟨z1,z2,z3⟩:=HST.out (by trivial);(try dsimp only at z1 z2 z3);have HS2:=U (ApS w W0 x l r n m (i+1) Wd A2 a2 B2 b2 c2) (⟨HEQ2.out,HXD.out,HFD.out,oJ z3 (by have:=HS.out.n;omega) (by have:=HS.out.m;have:=HCM.out;omega),by have:=HS.out.n;omega,by have:=HS.out.m;omega,HBD.out,HCD.out⟩);clear HXD HBD HFD HCD z1 z2 z3;go_wp2_with fail;go_roundw
   case rel=>exact⟨i+1,by omega,by go_num,_,_,_,_,_,HS2.out⟩
   (try simp[intOf])<;>(try omega)
  have q2:(en !=0)=true:=by simp[q1]
  have HE:=U (r=(en,(i:Int),col0)) (by rw[HEQ.out,if_pos q1]);clear q1 HST HEQ;go_upto_region 7 with(fail)
  obtain⟨Wd,hWd⟩:=HWE.out;rw[hWd]at HXD HBD HFD HCD HY2 HY3|-;clear hWd f0 f1 f2 f3 f4 g0 g1 g2 g3 g4 HWE;have Y2:=HY2.out;have Y3:=HY3.out;have BD:=HBD.out;clear HY2 HY3 HXD HFD HCD;obtain⟨u3,hu3⟩:∃u,w.heap.size+1+1+1=u:=⟨_,rfl⟩;rw[hu3];obtain⟨u2,hu2⟩:∃u,w.heap.size+1+1=u:=⟨_,rfl⟩;rw[hu2];have V2:Box Wd u2 32 [H none 0 0,H none 0 0,I J 0,I J 0,I J 0]:=by rw[<-hu2];exact Y2
  have V3:Box Wd u3 47 [I J 0,I J 0]:=by rw[<-hu3];exact Y3
  have hw2:w.heap.size<=u2:=by omega
  have hw3:w.heap.size<=u3:=by omega
  have h23:¬u2=u3:=by omega
  have h32:¬u3=u2:=by omega
  have huN:u2<W0.heap.size/\u3<W0.heap.size:=by have:=HX3.out.lt;omega
  clear Y2 Y3 hu2 hu3;have f0:=V2.free 0;have f1:=V2.free 1;have f2:=V2.free 2;have f3:=V2.free 3;have f4:=V2.free 4;have g0:=V2.c 0 rfl;have g1:=V2.c 1 rfl;have g2:=V2.c 2 rfl;have g3:=V2.c 3 rfl;have g4:=V2.c 4 rfl;have C1:Chg (fun q=>q=u2) Wd (((((Wd.setCell ⟨u2,0,none⟩ (H none 0 0)).setCell ⟨u2,1,none⟩ (H none 0 0)).setCell ⟨u2,2,none⟩ (I J 0)).setCell ⟨u2,3,none⟩ (I J 0)).setCell ⟨u2,4,none⟩ (I J 0)):=Chg.of_grown (aG (p:=⟨u2,4,none⟩) (aG (p:=⟨u2,3,none⟩) (aG (p:=⟨u2,2,none⟩) (aG (p:=⟨u2,1,none⟩) (aG (p:=⟨u2,0,none⟩) (aN Wd _) _) _) _) _) _) (fun q e=>(Option.some.inj e).symm);have Z2:Box (((((Wd.setCell ⟨u2,0,none⟩ (H none 0 0)).setCell ⟨u2,1,none⟩ (H none 0 0)).setCell ⟨u2,2,none⟩ (I J 0)).setCell ⟨u2,3,none⟩ (I J 0)).setCell ⟨u2,4,none⟩ (I J 0)) u2 32 [H none 0 0,H none 0 0,I J 0,I J 0,I J 0]:=(((((V2.set 0 (H none 0 0)).set 1 (H none 0 0)).set 2 (I J 0)).set 3 (I J 0)).set 4 (I J 0));have WXE:=U (∃Wx,(((((Wd.setCell ⟨u2,0,none⟩ (H none 0 0)).setCell ⟨u2,1,none⟩ (H none 0 0)).setCell ⟨u2,2,none⟩ (I J 0)).setCell ⟨u2,3,none⟩ (I J 0)).setCell ⟨u2,4,none⟩ (I J 0))=Wx) (⟨_,rfl⟩);have HC1:=G C1;have HZ2:=G Z2;have HV3:=G V3;clear C1 Z2 V2 V3;go_upto_region 8 with(fail)
  go_step;go_step;go_step;go_step;go_step;go_step;go_step;go_step;go_step;go_step;go_step;go_step;go_step;go_step;go_step;go_step;go_step;obtain⟨Wx,hWx⟩:=WXE.out;rw[hWx]at HC1 HZ2|-;clear hWx WXE f0 g0 f1 g1 f2 g2 f3 g3 f4 g4;have Y3:=HC1.out.box HV3.out (fun(e:u3=u2)=>h32 e);have p0:=Y3.free 0;have p1:=Y3.free 1;have q0:=Y3.c 0 rfl;have q1:=Y3.c 1 rfl;have l2:=HZ2.out.lt;have l3:=Y3.lt;have C2:Chg (fun q=>q=u3) Wx ((Wx.setCell ⟨u3,0,none⟩ (I J en)).setCell ⟨u3,1,none⟩ (I J (i:Int))):=Chg.of_grown (aG (p:=⟨u3,1,none⟩) (aG (p:=⟨u3,0,none⟩) (aN Wx _) _) _) (fun q e=>(Option.some.inj e).symm);have Z2:=C2.box HZ2.out (fun(e:u2=u3)=>h23 e);have Z3:Box ((Wx.setCell ⟨u3,0,none⟩ (I J en)).setCell ⟨u3,1,none⟩ (I J (i:Int))) u3 47 [I J en,I J (i:Int)]:=((Y3.set 0 (I J en)).set 1 (I J (i:Int)));have CA:Chg (fun q=>q=u2\/q=u3) Wd ((Wx.setCell ⟨u3,0,none⟩ (I J en)).setCell ⟨u3,1,none⟩ (I J (i:Int))):=(HC1.out.mono (fun _ _ e=>.inl e)).trans (C2.mono (fun _ _ e=>.inr e));have BF:By w ((Wx.setCell ⟨u3,0,none⟩ (I J en)).setCell ⟨u3,1,none⟩ (I J (i:Int))):=BD.trans (Chg.below CA (n:=w.heap.size) BD.size (fun k(hk:k=u2\/k=u3)=>by omega));have WFE:=U (∃Wf,((Wx.setCell ⟨u3,0,none⟩ (I J en)).setCell ⟨u3,1,none⟩ (I J (i:Int)))=Wf) (⟨_,rfl⟩);have HY2:=G Z2;have HY3:=G Z3;have HBF:=G BF;clear C2 CA Z2 Z3 BF BD Y3 HC1 HZ2 HV3 huN;go_wp2_with fail;obtain⟨Wf,hWf⟩:=WFE.out;try rw[hWf]at HY2 HY3 HBF|-
  clear hWf;have z0:=HY2.out.c 0 rfl;have z1:=HY2.out.c 1 rfl;have z2:=HY2.out.c 2 rfl;have z3:=HY2.out.c 3 rfl;have z4:=HY2.out.c 4 rfl;have y0:=HY3.out.c 0 rfl;have y1:=HY3.out.c 1 rfl;(try simp only[Exit.inBlock,Exit.then]);refine bodyPost_ret (yN rfl _ _ (b:=u2) (d:=u3) rfl rfl z0 z1 z2 z3 z4 y0 y1) rfl ?_;rw[HE.out];exact⟨none,0,none,0,rfl,eX _,HBF.out⟩
 obtain rfl:i=l.length:=by omega
 have HE:=U (r=(0,0,c)) (by rw[<-HS.out.eq,DJ]);have Y2:=HS.out.ch.box HX2.out (fun(e:w.heap.size+2=w.heap.size+1)=>by omega);have Y3:=HS.out.ch.box HX3.out (fun(e:w.heap.size+3=w.heap.size+1)=>by omega);have FD:=HS.out.fr;have BD:=HS.out.b;have d0:=s1.c 0 rfl;have d1:=s1.c 1 rfl;have d2:=s1.c 2 rfl;have d3:=s1.c 3 rfl;have d4:=s1.c 4 rfl;clear s1 HT HTS KS;obtain⟨u3,hu3⟩:∃u,w.heap.size+1+1+1=u:=⟨_,rfl⟩;rw[hu3];obtain⟨u2,hu2⟩:∃u,w.heap.size+1+1=u:=⟨_,rfl⟩;rw[hu2];have V2:Box wr u2 32 [H none 0 0,H none 0 0,I J 0,I J 0,I J 0]:=by rw[<-hu2];exact Y2
 have V3:Box wr u3 47 [I J 0,I J 0]:=by rw[<-hu3];exact Y3
 have hw2:w.heap.size<=u2:=by omega
 have hw3:w.heap.size<=u3:=by omega
 have h23:¬u2=u3:=by omega
 have h32:¬u3=u2:=by omega
 have huN:u2<W0.heap.size/\u3<W0.heap.size:=by have:=HX3.out.lt;omega
 clear Y2 Y3 hu2 hu3;have f0:=V2.free 0;have f1:=V2.free 1;have f2:=V2.free 2;have f3:=V2.free 3;have f4:=V2.free 4;have g0:=V2.c 0 rfl;have g1:=V2.c 1 rfl;have g2:=V2.c 2 rfl;have g3:=V2.c 3 rfl;have g4:=V2.c 4 rfl;have C1:Chg (fun q=>q=u2) wr (((((wr.setCell ⟨u2,0,none⟩ (H A c.ents.length a)).setCell ⟨u2,1,none⟩ (H B c.grps.length b)).setCell ⟨u2,2,none⟩ (I J c.base)).setCell ⟨u2,3,none⟩ (I J c.second)).setCell ⟨u2,4,none⟩ (I J c.third)):=Chg.of_grown (aG (p:=⟨u2,4,none⟩) (aG (p:=⟨u2,3,none⟩) (aG (p:=⟨u2,2,none⟩) (aG (p:=⟨u2,1,none⟩) (aG (p:=⟨u2,0,none⟩) (aN wr _) _) _) _) _) _) (fun q e=>(Option.some.inj e).symm);have Z2:Box (((((wr.setCell ⟨u2,0,none⟩ (H A c.ents.length a)).setCell ⟨u2,1,none⟩ (H B c.grps.length b)).setCell ⟨u2,2,none⟩ (I J c.base)).setCell ⟨u2,3,none⟩ (I J c.second)).setCell ⟨u2,4,none⟩ (I J c.third)) u2 32 [H A c.ents.length a,H B c.grps.length b,I J c.base,I J c.second,I J c.third]:=(((((V2.set 0 (H A c.ents.length a)).set 1 (H B c.grps.length b)).set 2 (I J c.base)).set 3 (I J c.second)).set 4 (I J c.third));have WXE:=U (∃Wx,(((((wr.setCell ⟨u2,0,none⟩ (H A c.ents.length a)).setCell ⟨u2,1,none⟩ (H B c.grps.length b)).setCell ⟨u2,2,none⟩ (I J c.base)).setCell ⟨u2,3,none⟩ (I J c.second)).setCell ⟨u2,4,none⟩ (I J c.third))=Wx) (⟨_,rfl⟩);have HC1:=G C1;have HZ2:=G Z2;have HV3:=G V3;clear C1 Z2 V2 V3;go_upto_region 10 with(fail)
 go_step;go_step;go_step;go_step;go_step;go_step;go_step;go_step;go_step;go_step;go_step;obtain⟨Wx,hWx⟩:=WXE.out;rw[hWx]at HC1 HZ2|-;clear hWx WXE f0 g0 f1 g1 f2 g2 f3 g3 f4 g4;have Y3:=HC1.out.box HV3.out (fun(e:u3=u2)=>h32 e);have p0:=Y3.free 0;have p1:=Y3.free 1;have q0:=Y3.c 0 rfl;have q1:=Y3.c 1 rfl;have l2:=HZ2.out.lt;have l3:=Y3.lt;have C2:Chg (fun q=>q=u3) Wx ((Wx.setCell ⟨u3,0,none⟩ (I J 0)).setCell ⟨u3,1,none⟩ (I J 0)):=Chg.of_grown (aG (p:=⟨u3,1,none⟩) (aG (p:=⟨u3,0,none⟩) (aN Wx _) _) _) (fun q e=>(Option.some.inj e).symm);have Z2:=C2.box HZ2.out (fun(e:u2=u3)=>h23 e);have Z3:Box ((Wx.setCell ⟨u3,0,none⟩ (I J 0)).setCell ⟨u3,1,none⟩ (I J 0)) u3 47 [I J 0,I J 0]:=((Y3.set 0 (I J 0)).set 1 (I J 0));have CA:Chg (fun q=>q=u2\/q=u3) wr ((Wx.setCell ⟨u3,0,none⟩ (I J 0)).setCell ⟨u3,1,none⟩ (I J 0)):=(HC1.out.mono (fun _ _ e=>.inl e)).trans (C2.mono (fun _ _ e=>.inr e));have BF:By w ((Wx.setCell ⟨u3,0,none⟩ (I J 0)).setCell ⟨u3,1,none⟩ (I J 0)):=BD.trans (Chg.below CA (n:=w.heap.size) BD.size (fun k(hk:k=u2\/k=u3)=>by omega));have FF:=(FD.chg CA (fun q(hq:q=u2\/q=u3)=>by omega)).here;have WFE:=U (∃Wf,((Wx.setCell ⟨u3,0,none⟩ (I J 0)).setCell ⟨u3,1,none⟩ (I J 0))=Wf) (⟨_,rfl⟩);have HY2:=G Z2;have HY3:=G Z3;have HBF:=G BF;have HFF:=G FF;clear FF FD;clear C2 CA Z2 Z3 BF BD Y3 HC1 HZ2 HV3 huN;go_wp2_with fail;obtain⟨Wf,hWf⟩:=WFE.out;try rw[hWf]at HY2 HY3 HBF HFF|-
 clear hWf;have z0:=HY2.out.c 0 rfl;have z1:=HY2.out.c 1 rfl;have z2:=HY2.out.c 2 rfl;have z3:=HY2.out.c 3 rfl;have z4:=HY2.out.c 4 rfl;have y0:=HY3.out.c 0 rfl;have y1:=HY3.out.c 1 rfl;(try simp only[Exit.inBlock,Exit.then]);refine bodyPost_ret (yN rfl _ _ (b:=u2) (d:=u3) rfl rfl z0 z1 z2 z3 z4 y0 y1) rfl ?_;rw[HE.out];exact⟨_,_,_,_,rfl,HFF.out,HBF.out⟩
end
end Go.Proofs.YtkhmjidaeliccaaGreatDoor
