import Derived.Test.YtkhmjidaeliccaaGreatDoorS26
set_option maxRecDepth 100000
set_option maxHeartbeats 51200000
namespace Go.Proofs.YtkhmjidaeliccaaGreatDoor
open Option renaming none->N,some->Z
open Value renaming int->I,slice->H
open IntKind renaming i64->J
open Go.Proofs.Tryz
section
open Go.ChangeShapes Go.WideShapes Go.ChangeAt Go.RowKit Tl
def Txt(w:Wv)(A:Oa)(k:Nat)(t:Li):Prop:=aA w A t/\t.length<=k/\k<=9223372036854775807/\∀z∈t,iok z
theorem Txt.below{w w':Wv}{A:Oa}{k:Nat}{t:Li}(h:Txt w A k t)(hb:By w w'):Txt w' A k t:=⟨h.1.below hb,h.2⟩
def oT(t:Tlr):Prop:=t.anc.length<=9223372036854775807/\t.cds.length<=9223372036854775807/\(∀z∈t.anc,iok z)/\∀z∈t.cds,iok z
abbrev TlV:=(Oa×Nat×Oa×Nat)×Tlr
theorem FH:∀vs:List TlV,fF (vs.map Prod.fst) (vs.map Prod.snd)=aB (λp:TlV=>cQ p.1 p.2) vs
 | []=>rfl
 |v::vs=>by
  show cQ v.1 v.2++fF (vs.map Prod.fst) (vs.map Prod.snd)=_
  rw[FH vs];rfl
section
variable {H:Type}{enc:TypeId×Value->H}{w:Wv}{base:Nat}{spare:Nat->Bool}{held:Bool}{fuel:Nat}{cs:Lv}{x:DataW H×List MemPlace}
theorem AM(h:DataW.trod enc prog w base spare held fuel 33 cs=Z x):
  ∃A len cap,∃l:Li,cs=[.slice A len cap]/\l.length=len/\Txt w A cap l:=by
 obtain⟨A,len,cap,l,d,b,f,e,a,c⟩:=jX (α:=Int) (λz=>[I J z]) 1 O (λ_=>rfl) (λz=>iok z) underlying33 ci (λfuel cs x hl hx=>by
  obtain⟨z,hz,_,hw⟩:=DataW.trod_int underlying3 hx
  exact⟨z,hz,hw⟩) h
 refine⟨A,len,cap,l,d,b,?_,O,e,c⟩;unfold dZ aB at a;unfold aA;rw[show l.map (Value.int .i64)=l.flatMap (λz=>[I J z]) by clear b a c;induction l<;>simp_all];exact a
theorem AK(h:DataW.trod enc prog w base spare held fuel 35 cs=Z x)(hl:cs.length=4):
  ∃p:TlV,cs=cQ p.1 p.2/\Txt w p.1.1 p.1.2.1 p.2.anc/\Txt w p.1.2.2.1 p.1.2.2.2 p.2.cds/\iok p.2.lvl:=by
 obtain⟨xs,k,hk,t,_,b,a⟩:=DataW.trod_struct underlying35 h;match xs,b,cs,hl with
 | [y0,y1,y2,y3],_,[v0,v1,v2,v3],_=>
  have g:=a 0 _ rfl;have i:=a 1 _ rfl;have j:=a 2 _ rfl;have l:=a 3 _ rfl;simp[ci,cI,cb']at g i j l;obtain⟨m,E,o,z,c,r,v⟩:=AM g;obtain⟨n,F,q,A,d,s,y⟩:=AM i;obtain⟨C,e,_,B⟩:=DataW.trod_int underlying3 j;obtain⟨D,f,_⟩:=DataW.trod_bool underlying4 l;simp at c d e f;subst c;subst d;subst e;subst f;subst r;subst s;exact⟨((m,o,n,q),⟨z,A,C,D⟩),rfl,v,y,B⟩
theorem UK(h:DataW.trod enc prog w base spare held fuel 44 cs=Z x):
  ∃A len cap,∃l:List Tlr,cs=[.slice A len cap]/\l.length=len/\len<=cap/\cap<=9223372036854775807/\fU w A l/\∀t∈l,oT t:=by
 have:Inhabited TlV:=⟨((N,0,N,0),⟨[],[],0,false⟩)⟩
 obtain⟨A,len,cap,vs,f,g,j,k,m,d⟩:=jX (α:=TlV) (λp=>cQ p.1 p.2) 4 O (λ_=>rfl) (λp=>Txt w p.1.1 p.1.2.1 p.2.anc/\Txt w p.1.2.2.1 p.1.2.2.2 p.2.cds) underlying44 oK_ (λfuel cs x hl hx=>by
  obtain⟨p,e,n,o,_⟩:=AK hx hl
  exact⟨p,e,n,o⟩) h
 refine⟨A,len,cap,vs.map Prod.snd,f,by simpa using g,j,k,⟨vs.map Prod.fst,L,?_,λi hi hv=>?_⟩,λt ht=>?_⟩
 ·rw[FH]
  exact m
 ·have c:i<vs.length:=by simpa using hi
  have hp:=d _ (List.getElem_mem c);simp only[List.getElem_map];exact⟨hp.1.1,hp.2.1⟩
 obtain⟨p,hp,rfl⟩:=List.mem_map.1 ht;obtain⟨a,b⟩:=d p hp;exact⟨Nat.le_trans a.2.1 a.2.2.1,Nat.le_trans b.2.1 b.2.2.1,a.2.2.2,b.2.2.2⟩
theorem UI(h:DataW.trod enc prog w base spare held fuel 28 cs=Z x):
  ∃A0 k0 A1 k1 A2 k2,∃C:Nrm,cs=[.slice A0 C.cls.length k0,.slice A1 C.dec.length k1,.slice A2 C.exc.length k2]/\cB w A0 C.cls.length A1 C.dec.length A2 C.exc.length C/\lX C:=by
 obtain⟨xs,k,hk,y,b,c,a⟩:=DataW.trod_struct underlying28 h;have v:prog.cellsOf 28=3:=oK_;rw[v]at b;match xs,c,cs,b with
 | [y0,y1,y2],_,[v0,v1,v2],_=>
  have g:=a 0 _ rfl;have i:=a 1 _ rfl;have j:=a 2 _ rfl;simp[zQ,mcM,mcS]at g i j;obtain⟨A0,E,o,l,d,r,L,P,z⟩:=AJ g;obtain⟨A1,F,p,m,e,s,M,Q,A,D⟩:=AH i;obtain⟨A2,K,q,n,f,t,O,R,B⟩:=AI rfl j;simp at d e f;subst d;subst e;subst f;subst r;subst s;subst t;exact⟨A0,o,A1,p,A2,q,⟨l,m,n⟩,rfl,⟨z,A,B,rfl,rfl,rfl⟩,⟨by show l.length<=_;omega,by show m.length<=_;omega,by show n.length<=_;omega,D⟩⟩
theorem UA(h:DataW.trod enc prog w base spare held fuel 32 cs=Z x):
  ∃A a B b,∃c:Col,cs=[.slice A c.ents.length a,.slice B c.grps.length b,I J c.base,I J c.second,I J c.third]/\aO w A c.ents.length B c.grps.length c/\c.ents.length<=a/\a<=9223372036854775807/\c.grps.length<=b/\b<=9223372036854775807:=by
 obtain⟨xs,k,hk,C,e,f,d⟩:=DataW.trod_struct underlying32 h;have z:prog.cellsOf 32=5:=oK_;rw[z]at e;match xs,f,cs,e with
 | [y0,y1,y2,y3,y4],_,[v0,v1,v2,v3,v4],_=>
  have p:=d 0 _ rfl;have q:=d 1 _ rfl;have r:=d 2 _ rfl;have s:=d 3 _ rfl;have t:=d 4 _ rfl;simp[ci,cN,cG]at p q r s t;obtain⟨A,n,a,F,g,v,L,O,D⟩:=AF p;obtain⟨B,m,b,K,i,y,M,P,E,Q⟩:=AG q;obtain⟨R,j,_,_⟩:=DataW.trod_int underlying3 r;obtain⟨S,l,_,_⟩:=DataW.trod_int underlying3 s;obtain⟨T,o,_,_⟩:=DataW.trod_int underlying3 t;simp at g i j l o;subst g;subst i;subst j;subst l;subst o;subst v;subst y;exact⟨A,a,B,b,⟨F,K,R,S,T⟩,rfl,⟨D,E,rfl,rfl,Q⟩,L,O,M,P⟩
theorem cNo:prog.cellsOf 28=3:=oK_
theorem cCo:prog.cellsOf 32=5:=oK_
theorem cTl:prog.cellsOf 35=4:=oK_
end
structure lU where
 A0:Oa
 k0:Nat
 A1:Oa
 k1:Nat
 A2:Oa
 k2:Nat
 C:Oa
 a:Nat
 B:Oa
 b:Nat
 P:Oa
 p:Nat
 Q:Oa
 q:Nat
def JH(V:lU)(x:Nrm)(c:Col)(t:Tlr):Lv:=
 [.slice V.A0 x.cls.length V.k0,.slice V.A1 x.dec.length V.k1,.slice V.A2 x.exc.length V.k2,.slice V.C c.ents.length V.a,.slice V.B c.grps.length V.b,I J c.base,I J c.second,I J c.third,.slice V.P t.anc.length V.p,.slice V.Q t.cds.length V.q,I J t.lvl,.bool t.bef]
structure qO(w:Wv)(V:lU)(x:Nrm)(c:Col)(t:Tlr):Prop where
 nrm:cB w V.A0 x.cls.length V.A1 x.dec.length V.A2 x.exc.length x
 ln:lX x
 col:aO w V.C c.ents.length V.B c.grps.length c
 na:c.ents.length<=V.a
 aa:V.a<=9223372036854775807
 mb:c.grps.length<=V.b
 bb:V.b<=9223372036854775807
 anc:Txt w V.P V.p t.anc
 cds:Txt w V.Q V.q t.cds
section
variable {H:Type}{enc:TypeId×Value->H}{w:Wv}{base:Nat}{spare:Nat->Bool}{held:Bool}
theorem open_ask{v:Value}{r:Reach}{b0:Nat}{d:DataW H}{p:List MemPlace}(hok:Value.okWide prog w r b0 37 v)(h:DataW.Trod enc prog w base spare held 37 v d p):
  ∃(V:lU)(x:Nrm)(c:Col)(t:Tlr),v=.agg (JH V x c t).toArray/\qO w V x c t:=by
 obtain⟨n,hf⟩:=h;obtain⟨cs,rfl,_⟩:=okWide_struct underlying37 hok;obtain⟨xs,k,hk,E,f,i,e⟩:=DataW.trod_struct underlying37 hf;have g:prog.cellsOf 37=12:=oK_;rw[g]at f;obtain⟨cs⟩:=cs;simp only[Value.cells]at f e;match xs,i,cs,f with
 | [y0,y1,y2],_,[v0,v1,v2,v3,v4,v5,v6,v7,v8,v9,v10,v11],_=>
  have o:=e 0 _ rfl;have s:=e 1 _ rfl;have y:=e 2 _ rfl;simp[cNo,cCo,cTl]at o s y;obtain⟨z,R,A,S,D,T,x,j,F,O⟩:=UI o;obtain⟨C,a,B,b,c,l,K,W,Y,X,r2⟩:=UA s;obtain⟨⟨⟨P,p,Q,q⟩,t⟩,m,L,M,_⟩:=AK y rfl;simp[cQ]at j l m;obtain⟨rfl,rfl,rfl⟩:=j;obtain⟨rfl,rfl,rfl,rfl,rfl⟩:=l;obtain⟨rfl,rfl,rfl,rfl⟩:=m;exact⟨⟨z,R,A,S,D,T,C,a,B,b,P,p,Q,q⟩,x,c,t,rfl,⟨F,O,K,W,Y,X,r2,L,M⟩⟩
theorem open_tlrs{A:Oa}{n c:Nat}{d:DataW H}{p:List MemPlace}(h:DataW.Trod enc prog w base spare held 44 (.slice A n c) d p):
  ∃l:List Tlr,l.length=n/\n<=c/\c<=9223372036854775807/\fU w A l/\∀t∈l,oT t:=by
 obtain⟨b,hf⟩:=h;obtain⟨f,o,g,l,e,i,j,k,m⟩:=UK hf;have a:[Value.slice A n c]=[.slice f o g]:=e;injection a with a _;injection a with ea en ec;subst ea;subst en;subst ec;exact⟨l,i,j,k,m⟩
end
end
section
open Go.RowKit Go.Maps Go.WideMaps
def g_(c:Col):Bool:=decide (c.ents.length<=12)&&decide (c.grps.length<=8)&&c.ents.all (λx=>decide (x.codes.length<=10)&&decide (x.elems.length<=20))
theorem DU{c:Col}(h:g_ c=true):aQ c/\c.grps.length<=8/\c.ents.length<=12/\∀x∈c.ents,x.codes.length<=10/\x.elems.length<=20:=by
 unfold g_ at h;simp only[Bool.and_eq_true,decide_eq_true_eq,List.all_eq_true]at h;obtain⟨⟨b,d⟩,a⟩:=h;refine⟨⟨λi hi=>?_,O,O⟩,d,b,a⟩;have:=a _ (List.getElem_mem hi);omega
section
variable {c:Col}
theorem YZ(h:¬c.ents.length<=12):g_ c=false:=by simp[g_];omega
theorem Y_(h:¬c.grps.length<=8):g_ c=false:=by simp[g_];omega
theorem ZD{k:Nat}(hk:k<c.ents.length)(h:¬(c.ents[k].codes.length<=10/\c.ents[k].elems.length<=20)):g_ c=false:=by
 cases hs:g_ c with
 |false=>rfl
 |true=>exact absurd ((DU hs).2.2.2 _ (List.getElem_mem hk)) h
theorem ZE(h1:c.ents.length<=12)(h2:c.grps.length<=8)(h:∀t,(ht:t<c.ents.length)->c.ents[t].codes.length<=10/\c.ents[t].elems.length<=20):g_ c=true:=by
 unfold g_;simp only[Bool.and_eq_true,decide_eq_true_eq,List.all_eq_true];refine⟨⟨h1,h2⟩,λx hx=>?_⟩;obtain⟨t,ht,rfl⟩:=List.getElem_of_mem hx;exact h t ht
end
theorem ZG(A:Oa)(n a:Nat)(B:Oa)(m b:Nat)(c:Col)(w:Wv)(h:aO w A n B m c):
  Calls prog 32 #[aJ A n a B m b c] w λe w'=>e=.returned (.bool (g_ c))/\By w w':=by
 have g:By w (w.alloc (.cells #[H A n a,H B m b,I J c.base,I J c.second,I J c.third] 32)):=ba _ _;have T:(w.alloc (.cells #[H A n a,H B m b,I J c.base,I J c.second,I J c.third] 32)).cell? ⟨w.heap.size,0,N⟩=Z (H A n a):=L;have M:(w.alloc (.cells #[H A n a,H B m b,I J c.base,I J c.second,I J c.third] 32)).cell? ⟨w.heap.size,1,N⟩=Z (H B m b):=L;have K:∃F,w.alloc (.cells #[H A n a,H B m b,I J c.base,I J c.second,I J c.third] 32)=F:=⟨_,rfl⟩;have s:=G (YZ (c:=c));have v:=G (Y_ (c:=c));have y:=G (λk=>ZD (c:=c) (k:=k));have z:=G (ZE (c:=c));have Q:=G h.ents;have hn:=h.hn;have hm:=h.hm;unfold aJ;generalize g_ c=r at *;generalize c.base=cb at *;generalize c.second=cs at *;generalize c.third=ct at *;generalize c.ents=es at *;generalize c.grps=gs at *;subst hn;subst hm;clear h;go_enter func32,ntmps32;by_cases h1:es.length<=12
 ·have V:decide ((12:Int)<(es.length:Int))=false:=oU_
  by_cases h2:gs.length<=8
  ·have W:decide ((8:Int)<(gs.length:Int))=false:=oU_
   clear s v;go_wp2_with fail;obtain⟨F,o⟩:=K;rw[o]at g T M|-;clear o M;have D:=G (Q.o.below g);go_loopw [3] (λu wr=>∃i:Nat,i<=es.length/\u=I J i/\(∀t,(ht:t<es.length)->t<i->es[t].codes.length<=10/\es[t].elems.length<=20)/\wr=F) (λu _=>es.length-(intOf u).toNat)
   case atStart=>exact⟨0,Nat.zero_le _,rfl,λt _ h=>O,rfl⟩
   obtain⟨i,hi,rfl,p,rfl⟩:=hrel;have j:=G p;clear p;by_cases hlt:i<es.length
   ·obtain⟨b1,o1,rfl,S,f⟩:=D.o.at hlt
    obtain⟨C,c',E,d,c1,c2,_,_⟩:=f i hlt;have q:=G (λh=>dI (P:=λx=>x.codes.length<=10/\x.elems.length<=20) hlt j.o h);have l:=G (λh=>y.o i hlt h);clear f y z;generalize es[i]=ei at *;obtain⟨ec,ee⟩:=ei;dsimp only at *;by_cases h3:ec.length<=10
    ·have X:decide ((10:Int)<(ec.length:Int))=false:=oU_
     by_cases h4:ee.length<=20
     ·have Y:decide ((20:Int)<(ee.length:Int))=false:=oU_
      have R:=G (q.o ⟨h3,h4⟩);clear q l;go_wp2;go_roundw
      case rel=>exact⟨i+1,O,oN_,R.o,trivial⟩
      exact oI_
     have Y:decide ((20:Int)<(ee.length:Int))=true:=oU_;obtain rfl:=l.o (λh=>h4 h.2);clear q l;go_wp2;go_ret;exact⟨rfl,g⟩
    have X:decide ((10:Int)<(ec.length:Int))=true:=oU_;obtain rfl:=l.o (λh=>h3 h.1);clear q l;go_wp2;go_ret;exact⟨rfl,g⟩
   obtain rfl:=z.o h1 h2 (λt ht=>j.o t ht O);go_wp2;go_ret;exact⟨rfl,g⟩
  have W:decide ((8:Int)<(gs.length:Int))=true:=oU_;obtain rfl:=v.o h2;clear s v y z;go_wp2;go_ret;exact⟨rfl,g⟩
 have V:decide ((12:Int)<(es.length:Int))=true:=oU_;obtain rfl:=s.o h1;clear s v y z;go_wp2;go_ret;exact⟨rfl,g⟩
end
section
open Go.RowKit Go.Maps Go.WideMaps Tl Pa
def iS(l:List Tlr):Bool:=(l.take 20).all (λt=>decide (t.anc.length<=12)&&decide (t.cds.length<=12))&&decide (l.length<=6)
theorem NV{l:List Tlr}{i:Nat}(hi:i<l.length)(h2:i<20)(h:¬(l[i].anc.length<=12/\l[i].cds.length<=12)):iS l=false:=by
 unfold iS;rw[Bool.and_eq_false_iff];left;rw[List.all_eq_false];refine⟨l[i],?_,by simpa using h⟩;rw[List.mem_iff_getElem];exact⟨i,by rw[List.length_take];omega,by rw[List.getElem_take]⟩
theorem NW{l:List Tlr}(h:∀j,(hj:j<l.length)->j<20->l[j].anc.length<=12/\l[j].cds.length<=12):iS l=decide (l.length<=6):=by
 unfold iS;rw[List.all_eq_true.2,Bool.true_and];intro t ht;obtain⟨j,hj,rfl⟩:=List.getElem_of_mem ht;rw[List.length_take]at hj;rw[List.getElem_take];simpa using h j O O
theorem yB{l:List Tlr}(h:iS l=true):l.length<=6/\∀t∈l,t.anc.length<=12/\t.cds.length<=12:=by
 unfold iS at h;rw[Bool.and_eq_true,List.all_eq_true]at h;have a:l.length<=6:=by simpa using h.2
 refine⟨a,λt ht=>?_⟩;have:=h.1 t (by rw[List.take_of_length_le O];exact ht);simpa using this
theorem yC(K:Oa)(k:Nat)(l:List Tlr)(w:Wv)(hK:fU w K l)(hz:l.length<=9223372036854775807)(hzs:∀t∈l,t.anc.length<=9223372036854775807/\t.cds.length<=9223372036854775807):Calls prog 16 #[H K l.length k] w (λe w'=>e=.returned (.bool (iS l))/\Qt w w'):=by
 have n:=G hK;have p:=G hzs;have c:=G (λi hi h2 h=>NV (l:=l) (i:=i) hi h2 h);have b:=G (λh=>NW (l:=l) h);obtain⟨r,hr⟩:=exQ (iS l);rw[hr]at c b|-;clear hK hr hzs;go_enter func16,ntmps16;go_wp2;go_loopw [3] (λu wr=>∃i:Nat,i<=l.length/\i<=20/\u=I J i/\Hi (∀j,(hj:j<l.length)->j<i->l[j].anc.length<=12/\l[j].cds.length<=12)/\Qt w wr) (λu _=>l.length-(intOf u).toNat)
 case atStart=>exact⟨0,Nat.zero_le _,O,rfl,G (λj _ h=>absurd h O),Qt.refl _⟩
 obtain⟨i,hi,s,rfl,a,hq⟩:=hrel;obtain⟨nq,rfl⟩:=hq;by_cases hlt:i<l.length
 ·have v:(i:Int)<(l.length:Int):=O
  by_cases h2:i<20
  ·have q:(i:Int)<20:=O
   obtain⟨kb,ko,rfl,x,g⟩:=n.o.at hlt;obtain⟨P,pk,Q,qk,A,B,-,-,-,-⟩:=g i hlt;have f:=G (λh=>c.o i hlt h2 h)
   have m:=U (l[i].anc.length<=12/\l[i].cds.length<=12->∀j,(hj:j<l.length)->j<i+1->l[j].anc.length<=12/\l[j].cds.length<=12) (λh j hj h1=>by
    by_cases e:j<i
    ·exact a.o j hj e
    ·obtain rfl:j=i:=O
     exact h)
   have y:=p.o _ (List.getElem_mem hlt);clear g a;generalize l[i]=t at *;generalize t.anc.length=pn at *;generalize t.cds.length=qn at *;by_cases ha:12<pn
   ·have d:=G (f.o O)
    have da:decide ((12:Int)<(pn:Int))=true:=oU_;clear ha f m;go_wp2;go_ret;rw[d.o];exact⟨rfl,by repeat(first|exact Qt.refl _|refine Qt.drewN ?_ _)⟩
   have da:decide ((12:Int)<(pn:Int))=false:=oU_;by_cases hc:12<qn
   ·have d:=G (f.o O)
    have dc:decide ((12:Int)<(qn:Int))=true:=oU_;clear ha hc f m;go_wp2;go_ret;rw[d.o];exact⟨rfl,by repeat(first|exact Qt.refl _|refine Qt.drewN ?_ _)⟩
   have dc:decide ((12:Int)<(qn:Int))=false:=oU_;have o:=G (m.o ⟨O,O⟩);clear ha hc f m;go_wp2;go_roundw
   case rel=>exact⟨i+1,O,O,oN_,G o.o,by repeat(first|exact Qt.refl _|refine Qt.drewN ?_ _)⟩
   (try simp[intOf])<;>(try omega)
  obtain rfl:i=20:=O;have d:=U (r=decide (l.length<=6)) (b.o (λj hj h=>a.o j hj h));have z:decide ((l.length:Int)<=6)=false:=oU_;clear a;go_wp2;go_ret;have hf:decide (l.length<=6)=false:=decide_eq_false O;rw[d.o,hf];exact⟨rfl,by repeat(first|exact Qt.refl _|refine Qt.drewN ?_ _)⟩
 obtain rfl:i=l.length:=O;have d:=U (r=decide (l.length<=6)) (b.o (λj hj h=>a.o j hj hj));clear a;go_wp2;go_ret;rw[d.o];exact⟨by by_cases h:l.length<=6<;>simp[h]<;>omega,by repeat(first|exact Qt.refl _|refine Qt.drewN ?_ _)⟩
end
section
open Go.RowKit Go.Maps Go.WideMaps Tl
def mI(x:Nrm):Bool:=decide (x.cls.length<=16)&&iF x.dec&&decide (x.exc.length<=12)
theorem ZM{x:Nrm}(h:mI x=true):cZ x:=by
 unfold mI at h;simp only[Bool.and_eq_true,decide_eq_true_eq]at h;obtain⟨⟨c,a⟩,b⟩:=h;exact⟨O,(DT a).1,b⟩
theorem ZA(A0:Oa)(k0:Nat)(A1:Oa)(k1:Nat)(A2:Oa)(k2:Nat)(x:Nrm)(w:Wv)(hN:cB w A0 x.cls.length A1 x.dec.length A2 x.exc.length x)(hl:lX x):
  Calls prog 31 #[.agg #[H A0 x.cls.length k0,H A1 x.dec.length k1,H A2 x.exc.length k2]] w (c_ (mI x) w):=by
 have a:By w (w.alloc (.cells #[H A0 x.cls.length k0,H A1 x.dec.length k1,H A2 x.exc.length k2] 28)):=ba _ _;have h:Box (w.alloc (.cells #[H A0 x.cls.length k0,H A1 x.dec.length k1,H A2 x.exc.length k2] 28)) w.heap.size 28 [H A0 x.cls.length k0,H A1 x.dec.length k1,H A2 x.exc.length k2]:=Box.new _ _ _ rfl;have d:∃g,(w.alloc (.cells #[H A0 x.cls.length k0,H A1 x.dec.length k1,H A2 x.exc.length k2] 28))=g:=⟨_,rfl⟩;have i:=G (λW=>II A0 x.cls.length k0 W);have j:=G (λW(hb:By w W)=>ZL A1 x.dec.length k1 x.dec W (hN.s1.below hb) rfl hl.z1 hl.ze);have k:=G (λW=>WJ A2 x.exc.length k2 W hl.z2);have c:=U (mI x=(decide (x.cls.length<=16)&&iF x.dec&&decide (x.exc.length<=12))) rfl;generalize mI x=r at *;generalize iF x.dec=sm at *;generalize decide (x.cls.length<=16)=sc at *;generalize decide (x.exc.length<=12)=se at *;clear hN hl;go_enter func31,ntmps31;go_wp2_with fail;obtain⟨g,b⟩:=d;try rw[b]at a h|-
 clear b;obtain⟨n,o,p⟩:=h.k3;refine(i.o _).mono ?_
 rintro e l ⟨rfl,rfl⟩;cases sc with
 |false=>
  go_wp2;go_ret;exact⟨cY (by rw[c.o];rfl),a⟩
 |true=>
  go_wp2_with fail;refine(j.o _ a).mono ?_
  rintro e l ⟨rfl,rfl⟩;cases sm with
  |false=>
   go_wp2;go_ret;exact⟨cY (by rw[c.o];rfl),a⟩
  |true=>
   go_wp2_with fail;refine(k.o _).mono ?_
   rintro e m ⟨rfl,f⟩;go_wp2;go_ret;exact⟨cY (by rw[c.o];cases se<;>rfl),tb a f⟩
def kC(x:Nrm)(c:Col)(t:Tlr):Bool:=mI x&&g_ c&&iS [t]
theorem DS{x:Nrm}{c:Col}{t:Tlr}(h:kC x c t=true):cZ x/\aQ c/\c.ents.length<=12/\t.anc.length<=12/\t.cds.length<=12:=by
 unfold kC at h;rw[Bool.and_eq_true,Bool.and_eq_true]at h;have b:=(yB h.2).2 t L;have a:=DU h.1.2;exact⟨ZM h.1.1,a.1,a.2.2.1,b⟩
theorem zAp(w:Wv)(P:Oa)(p:Nat)(Q:Oa)(q:Nat)(t:Tlr)(hP:aA w P t.anc)(hQ:aA w Q t.cds)(n:Nat)(hn:w.heap.size=n):fU (w.alloc (.cells #[H P t.anc.length p,H Q t.cds.length q,I J t.lvl,.bool t.bef] 35)) (Z ⟨n,0,N⟩) [t]:=by
 subst hn;refine⟨[(P,p,Q,q)],rfl,(Box.new w 35 [H P t.anc.length p,H Q t.cds.length q,I J t.lvl,.bool t.bef] rfl).sl,λi hi hv=>?_⟩;obtain rfl:i=0:=by simp at hi;exact hi
 exact⟨hP.alloc _,hQ.alloc _⟩
structure GG(w:Wv)(V:lU)(x:Nrm)(c:Col)(t:Tlr):Prop where
 nrm:cB w V.A0 x.cls.length V.A1 x.dec.length V.A2 x.exc.length x
 ln:lX x
 col:aO w V.C c.ents.length V.B c.grps.length c
 anc:Txt w V.P V.p t.anc
 cds:Txt w V.Q V.q t.cds
theorem DR(V:lU)(x:Nrm)(c:Col)(t:Tlr)(w:Wv)(hS:GG w V x c t):
  Calls prog 11 #[.agg #[H V.A0 x.cls.length V.k0,H V.A1 x.dec.length V.k1,H V.A2 x.exc.length V.k2,H V.C c.ents.length V.a,H V.B c.grps.length V.b,I J c.base,I J c.second,I J c.third,H V.P t.anc.length V.p,H V.Q t.cds.length V.q,I J t.lvl,.bool t.bef]] w (c_ (kC x c t) w):=by
 have g:By w (w.alloc (.cells #[H V.A0 x.cls.length V.k0,H V.A1 x.dec.length V.k1,H V.A2 x.exc.length V.k2,H V.C c.ents.length V.a,H V.B c.grps.length V.b,I J c.base,I J c.second,I J c.third,H V.P t.anc.length V.p,H V.Q t.cds.length V.q,I J t.lvl,.bool t.bef] 37)):=ba _ _;have m:Box (w.alloc (.cells #[H V.A0 x.cls.length V.k0,H V.A1 x.dec.length V.k1,H V.A2 x.exc.length V.k2,H V.C c.ents.length V.a,H V.B c.grps.length V.b,I J c.base,I J c.second,I J c.third,H V.P t.anc.length V.p,H V.Q t.cds.length V.q,I J t.lvl,.bool t.bef] 37)) w.heap.size 37 [H V.A0 x.cls.length V.k0,H V.A1 x.dec.length V.k1,H V.A2 x.exc.length V.k2,H V.C c.ents.length V.a,H V.B c.grps.length V.b,I J c.base,I J c.second,I J c.third,H V.P t.anc.length V.p,H V.Q t.cds.length V.q,I J t.lvl,.bool t.bef]:=Box.new _ _ _ rfl;have l:∃k,(w.alloc (.cells #[H V.A0 x.cls.length V.k0,H V.A1 x.dec.length V.k1,H V.A2 x.exc.length V.k2,H V.C c.ents.length V.a,H V.B c.grps.length V.b,I J c.base,I J c.second,I J c.third,H V.P t.anc.length V.p,H V.Q t.cds.length V.q,I J t.lvl,.bool t.bef] 37))=k:=⟨_,rfl⟩;have i:=G (λW(hb:By w W)=>ZA V.A0 V.k0 V.A1 V.k1 V.A2 V.k2 x W (hS.nrm.below hb) hS.ln);have j:=G (λW(hb:By w W)=>ZG V.C c.ents.length V.a V.B c.grps.length V.b c W (hS.col.below hb))
 have s:=G (λW(hb:By w W)=>yC (Z ⟨W.heap.size,0,N⟩) 1 [t] (W.alloc (.cells #[H V.P t.anc.length V.p,H V.Q t.cds.length V.q,I J t.lvl,.bool t.bef] 35)) (zAp W V.P V.p V.Q V.q t (hS.anc.1.below hb) (hS.cds.1.below hb) _ rfl) L (λu hu=>by
  rw[List.mem_singleton.1 hu]
  exact⟨Nat.le_trans hS.anc.2.1 hS.anc.2.2.1,Nat.le_trans hS.cds.2.1 hS.cds.2.2.1⟩))
 unfold kC;unfold aJ at j;unfold c_ at i|-;simp only[List.length_singleton]at s;generalize mI x=sx at *;generalize g_ c=sc at *;generalize iS [t]=sf at *;clear hS;go_enter func11,ntmps11;go_upto_region 1 with(fail)
 obtain⟨k,a⟩:=l;try rw[a]at g m|-
 clear a;obtain⟨C,D,E,F,K,M,O,P,Q,R,n,o⟩:=m.k12;go_wp2_with fail;refine(i.o k g).mono ?_
 rintro e z ⟨rfl,b⟩;have h:=tb g b;clear i C D E F K M O P Q R n o;have v:=bb m b;obtain⟨S,T,X,Y,e4,e5,e6,e7,e8,e9,p,q⟩:=v.k12;cases sx with
 |false=>
  go_wp2;go_ret;exact⟨cY L,h⟩
 |true=>
  go_wp2_with fail;refine(j.o z h).mono ?_
  rintro e A ⟨rfl,d⟩;have f:=tb h d;clear j S T X Y e4 e5 e6 e7 e8 e9 p q;have B:=bb v d;obtain⟨f0,f1,f2,f3,f4,f5,f6,f7,f8,f9,ah,ai⟩:=B.k12;cases sc with
  |false=>
   go_wp2;go_ret;exact⟨cY L,f⟩
  |true=>
   have r:=f.alloc f.size (.cells #[H V.P t.anc.length V.p,H V.Q t.cds.length V.q,I J t.lvl,.bool t.bef] 35);go_wp2_with fail;refine(s.o A f).mono ?_
   rintro e W3 ⟨rfl,q3,rfl⟩;have y:=r.trans ((fW _ q3).mono r.size);go_wp2;go_ret;exact⟨cY L,y⟩
theorem ZH(V:lU)(x:Nrm)(c:Col)(t:Tlr)(w:Wv)(hS:qO w V x c t):
  Calls prog 11 #[.agg #[H V.A0 x.cls.length V.k0,H V.A1 x.dec.length V.k1,H V.A2 x.exc.length V.k2,H V.C c.ents.length V.a,H V.B c.grps.length V.b,I J c.base,I J c.second,I J c.third,H V.P t.anc.length V.p,H V.Q t.cds.length V.q,I J t.lvl,.bool t.bef]] w (c_ (kC x c t) w):=DR V x c t w ⟨hS.nrm,hS.ln,hS.col,hS.anc,hS.cds⟩
theorem TH(a b c:Int)(v:Bool)(w:Wv):(binOp .neq 77 (.agg #[I J a,I J b,I J c,.bool v]) (.agg #[I J a,I J b,I J c,.bool v])).run prog w=.ok (.bool false) w:=by
 have g:=underlying3;have e:=isAgg3;have i:=sizeOf3;have h:=underlying4;have f:=isAgg4;have j:=sizeOf4;have d:prog.underlying 77=Z (.struct (prog.fieldsOf 77)):=oK_;have hp:prog.stoodInHeld 77=false:=oK_;rw[run_neq_struct,show(10000:Nat)=9999+1 from rfl,run_equalIn_agg w 9999 77 _ _ d hp];simp only[Program.fieldsOf,underlying77];go_simp
theorem TJ(s:ByteArray)(a b:Int)(w:Wv):(binOp .neq 98 (.agg #[.string s,I J a,I J b]) (.agg #[.string s,I J a,I J b])).run prog w=.ok (.bool false) w:=by
 have f:=underlying3;have d:=isAgg3;have h:=sizeOf3;have g:=underlying9;have e:=isAgg9;have i:=sizeOf9;have c:prog.underlying 98=Z (.struct (prog.fieldsOf 98)):=oK_;have hp:prog.stoodInHeld 98=false:=oK_;rw[run_neq_struct,show(10000:Nat)=9999+1 from rfl,run_equalIn_agg w 9999 98 _ _ c hp];simp only[Program.fieldsOf,underlying98];go_simp
theorem YI(A:Oa)(n a:Nat)(B:Oa)(b:Nat)(zs:List Elt)(w:Wv)(hA:cM w A zs)(hB:cM w B zs)(hn:zs.length=n)(hb:n<=1048576):
  Calls prog 56 #[H A n a,H B n b] w λe w'=>e=.returned (.bool true)/\Qt w w':=by
 subst hn;have k:=G hA;have l:=G hB;have hg:prog.eqGuardType prog.depth 77=false:=oK_;have f:=TH;clear hA hB;go_enter func56,ntmps56;go_wp2;go_loopw [5] (λu wr=>∃i:Nat,i<=zs.length/\u=I J i/\Qt w wr) (λu _=>zs.length-(intOf u).toNat)
 case atStart=>exact⟨0,Nat.zero_le _,rfl,Qt.refl _⟩
 obtain⟨i,hi,rfl,hq⟩:=hrel;by_cases hlt:i<zs.length
 ·obtain⟨o,D,rfl,m,d⟩:=(k.o.below hq.below).at hlt
  obtain⟨q,r,s,t⟩:=d i hlt;obtain⟨p,E,rfl,j,c⟩:=(l.o.below hq.below).at hlt;obtain⟨v,x,y,C⟩:=c i hlt;have F:(i:Int)<(zs.length:Int):=O;clear d c;generalize zs[i]=z at *;obtain⟨zp,h,zt,zv⟩:=z;dsimp only at *;have g:=λW=>f zp h zt zv W
  clear f;go_wp2;go_quiet(fail);go_wp2;go_roundw
  case rel=>exact⟨i+1,O,oN_,hq.drewN _⟩
  exact oI_
 go_wp2;go_ret;exact⟨rfl,hq⟩
theorem DK(A:Oa)(n a:Nat)(B:Oa)(m b:Nat)(A':Oa)(n' a':Nat)(B':Oa)(m' b':Nat)(c:Col)(w:Wv)(h:aO w A n B m c)(h':aO w A' n' B' m' c)(hz:aQ c):
  Calls prog 15 #[aJ A n a B m b c,aJ A' n' a' B' m' b' c] w λe w'=>e=.returned (.bool true)/\By w w':=by
 obtain rfl:n'=n:=h'.hn.symm.trans h.hn;obtain rfl:m'=m:=h'.hm.symm.trans h.hm;have hm:=h.hm;have hn:=h.hn;have B0:By w ((w.alloc (.cells #[H A n' a,H B m' b,I J c.base,I J c.second,I J c.third] 32)).alloc (.cells #[H A' n' a',H B' m' b',I J c.base,I J c.second,I J c.third] 32)):=(ba _ _).alloc L _;have Q:Box ((w.alloc (.cells #[H A n' a,H B m' b,I J c.base,I J c.second,I J c.third] 32)).alloc (.cells #[H A' n' a',H B' m' b',I J c.base,I J c.second,I J c.third] 32)) w.heap.size 32 [H A n' a,H B m' b,I J c.base,I J c.second,I J c.third]:=fB (Box.new w 32 [H A n' a,H B m' b,I J c.base,I J c.second,I J c.third] rfl) _;have R:Box ((w.alloc (.cells #[H A n' a,H B m' b,I J c.base,I J c.second,I J c.third] 32)).alloc (.cells #[H A' n' a',H B' m' b',I J c.base,I J c.second,I J c.third] 32)) (w.heap.size+1) 32 [H A' n' a',H B' m' b',I J c.base,I J c.second,I J c.third]:=Box.new _ _ _ L;have aq:∃W0,(w.alloc (.cells #[H A n' a,H B m' b,I J c.base,I J c.second,I J c.third] 32)).alloc (.cells #[H A' n' a',H B' m' b',I J c.base,I J c.second,I J c.third] 32)=W0:=⟨_,rfl⟩;have HE:=G h.ents;have an:=G h'.ents;have HG:=G h.grps;have P:=G h'.grps;have K:=TJ;have HZ:=G hz.e;have bz:=hz.n;have bx:=hz.m;have hs:=G h.hs;unfold aJ;clear h h' hz;obtain⟨es,gs,cb,cs,ct⟩:=c;dsimp only at *;subst hn hm;go_enter func15,ntmps15;go_upto_region 1 with(fail)
 obtain⟨W0,Y⟩:=aq;try rw[Y]at B0 Q R|-
 clear Y;have v:=G Q;have x:=G R;have af:=Q.lt;have ag:=R.lt;have s:=G B0;obtain⟨c0,S,c2,c3,c4⟩:=Q.k5;obtain⟨d0,d1,d2,d3,d4⟩:=R.k5;clear Q R B0;go_wp2_with fail;clear c0 S c2 c3 c4 d0 d1 d2 d3 d4;have hg:prog.eqGuardType prog.depth 98=false:=oK_;go_loopw [5] (λu wr=>∃i:Nat,i<=gs.length/\u=I J i/\Qt W0 wr) (λu _=>gs.length-(intOf u).toNat)
 case atStart=>exact⟨0,Nat.zero_le _,rfl,Qt.refl _⟩
 obtain⟨i,hi,rfl,hq⟩:=hrel;have S:=(v.o.below (B:=_) hq.below af).c 1 rfl;have d1:=(x.o.below (B:=_) hq.below ag).c 1 rfl;by_cases hlt:i<gs.length
 ·have l:=tb s.o hq.below
  obtain⟨b1,o1,rfl,a2,f⟩:=(HG.o.below l).at hlt;obtain⟨e1,e2,e3⟩:=f i hlt;obtain⟨b2,o2,rfl,aa,d⟩:=(P.o.below l).at hlt;obtain⟨f1,f2,f3⟩:=d i hlt;have q2:(i:Int)<(gs.length:Int):=O;clear f d l;generalize gs[i]=g at *;obtain⟨gn,a1,a0⟩:=g;dsimp only at *;have bd:=λW=>K gn a1 a0 W
  clear K;go_wp2;go_quiet(fail);go_wp2;go_roundw
  case rel=>exact⟨i+1,O,oN_,hq.drewN _⟩
  exact oI_
 have ak:=G (tb s.o hq.below);have y:=G (v.o.below (B:=_) hq.below af);have D:=G (x.o.below (B:=_) hq.below ag);clear v x s hq HG P hs K hg;go_wp2_with fail;clear S d1;have ah:=y.o.lt;have ai:=D.o.lt;go_loopw [6] (λu wx=>∃i:Nat,i<=es.length/\u=I J i/\By wr wx) (λu _=>es.length-(intOf u).toNat)
 case atStart=>exact⟨0,Nat.zero_le _,rfl,Below.refl _ _⟩
 obtain⟨j,hj,rfl,hb⟩:=hrel;have bv:=(y.o.below (B:=_) hb ah).lt;have bw:=(D.o.below (B:=_) hb ai).lt;have c0:=(y.o.below (B:=_) hb ah).c 0 rfl;have d0:=(D.o.below (B:=_) hb ai).c 0 rfl;have l:=G (tb ak.o hb);have M:=G hb;clear hb;by_cases hjt:j<es.length
 ·obtain⟨b1,o1,rfl,a2,f⟩:=(HE.o.below l.o).at hjt
  obtain⟨C,cc,E,dd,S,c2,hC,hE⟩:=f j hjt;obtain⟨b2,o2,rfl,aa,d⟩:=(an.o.below l.o).at hjt;obtain⟨C',ax,E',T,au,aw,V,X⟩:=d j hjt;obtain⟨z1,z2⟩:=HZ.o j hjt;have q2:(j:Int)<(es.length:Int):=O;have HC:=G hC;have am:=G V;have SE:=G (λW(hb:By wr W)=>YI E es[j].elems.length dd E' T es[j].elems W (hE.below hb) (X.below hb) rfl z2);clear f d hC V hE X;generalize es[j].codes=zs at *;generalize es[j].elems.length=el at *;go_wp2_with fail;go_cut [7,8]from 65 to 114 (λv7 v8 wy=>∃p q,v7=.pointer (Z ⟨p,0,N⟩)/\v8=.pointer (Z ⟨q,0,N⟩)/\Box wy p 75 [H C zs.length cc,H E el dd]/\Box wy q 75 [H C' zs.length ax,H E' el T]/\By wr wy)
  case first=>
   go_wp2_with fail;go_region
   all_goals
    go_wp2;go_meet
    first
     |exact⟨wr.heap.size,wr.heap.size+1,rfl,rfl,fB (Box.new wr _ _ rfl) _,Box.new _ _ _ L,((ba _ _).alloc L _).drew⟩
     |exact⟨wr.heap.size+1,wr.heap.size,rfl,rfl,Box.new _ _ _ L,fB (Box.new wr _ _ rfl) _,((ba _ _).alloc L _).drew⟩
  case rest=>
  obtain⟨p,q,rfl,rfl,hp,hq,F⟩:=hcut;have HP:=G hp;have HQ:=G hq;have t:=G F;have ao:=G (SE.o wc F);obtain⟨c5,c6⟩:=hp.k2;obtain⟨d5,d6⟩:=hq.k2;have ad:=hp.lt;have a3:=hq.lt;clear hp hq F SE c0 d0 S c2 au aw;go_wp2_with fail;refine ao.o.mono ?_
  rintro e Wd ⟨rfl,ae⟩;have c7:=(HP.o.below (B:=_) ae.below ad).c 0 rfl;go_wp2_with fail;clear c5 c6 d5 d6 c7;go_loopw [9] (λu wy=>∃k:Nat,k<=zs.length/\u=I J k/\Qt wc wy) (λu _=>zs.length-(intOf u).toNat)
  case atStart=>exact⟨0,Nat.zero_le _,rfl,ae⟩
  obtain⟨k,hk,rfl,o⟩:=hrel;have c5:=(HP.o.below (B:=_) o.below ad).c 0 rfl;have d5:=(HQ.o.below (B:=_) o.below a3).c 0 rfl;by_cases hkt:k<zs.length
  ·obtain⟨b3,o3,rfl,ab⟩:=(HC.o.below (tb t.o o.below)).at hkt
   have e1:=ab k hkt;obtain⟨b4,o4,rfl,r⟩:=(am.o.below (tb t.o o.below)).at hkt;have e2:=r k hkt;have q3:(k:Int)<(zs.length:Int):=O;clear ab r;generalize zs[k]=z at *;go_wp2;go_quiet(fail);go_wp2;go_roundw
   case rel=>exact⟨k+1,O,oN_,o.drewN _⟩
   exact oI_
  have al:=G (M.o.trans ((tb t.o o.below).mono M.o.size));go_wp2;go_roundw
  case rel=>exact⟨j+1,O,oN_,al.o⟩
  exact oI_
 go_wp2;go_ret;exact⟨rfl,l.o⟩
end
end Go.Proofs.YtkhmjidaeliccaaGreatDoor
