import Derived.Test.YtpfbnikbebccjaaGreatDoorU00
import Derived.Test.YtpfbnikbebccjaaGreatDoorU03
import Derived.Test.YtpfbnikbebccjaaGreatDoorU05
import Derived.Test.YtpfbnikbebccjaaGreatDoorU06
import Derived.Test.YtpfbnikbebccjaaGreatDoorU07
import Derived.Test.YtpfbnikbebccjaaGreatDoorU10
import Derived.Test.YtpfbnikbebccjaaGreatDoorU11
import Derived.Test.YtpfbnikbebccjaaGreatDoorProg
import Derived.RegionTactic
import Derived.BigRegion
import Derived.Outline
import Derived.StillTailTactics
import Derived.Deep.RegionWith
import Derived.Deep.QuietTactic
import Derived.BigQuiet
set_option maxRecDepth 100000
set_option maxHeartbeats 51200000
namespace Go.Proofs.YtpfbnikbebccjaaGreatDoor
open Option renaming none->N,some->Z
open Value renaming int->I,slice->H
open IntKind renaming i64->J
open Go.Proofs.Tryz
section
open Go.RowKit Go.Maps Go.WideMaps Srl
def kA(x:Nrm):Bool:=decide (x.cls.length<=16)&&gV x.dec&&decide (x.exc.length<=12)
theorem ZV{x:Nrm}(h:kA x=true):cK x:=by
 unfold kA at h;simp only[Bool.and_eq_true,decide_eq_true_eq]at h;obtain⟨⟨h1,h2⟩,h3⟩:=h;exact⟨by omega,(B_ h2).1,h3⟩
theorem MI(A:Oa)(n k:Nat)(m:Int)(w:Wv):Calls prog 31 #[H A n k,I J m] w fun e w'=>e=.returned (.bool (decide ((n:Int)<=m)))/\w=w':=by
 go_enter func31,ntmps31;go_wp2_with fail;go_ret;exact⟨rfl,rfl⟩
theorem ZN(A0:Oa)(k0:Nat)(A1:Oa)(k1:Nat)(A2:Oa)(k2:Nat)(x:Nrm)(w:Wv)(hN:bA w A0 x.cls.length A1 x.dec.length A2 x.exc.length x)(hl:qQ x):
  Calls prog 33 #[.agg #[H A0 x.cls.length k0,H A1 x.dec.length k1,H A2 x.exc.length k2]] w (fH (kA x) w):=by
 have B0:By w (w.alloc (.cells #[H A0 x.cls.length k0,H A1 x.dec.length k1,H A2 x.exc.length k2] 28)):=ba _ _;have X0:Box (w.alloc (.cells #[H A0 x.cls.length k0,H A1 x.dec.length k1,H A2 x.exc.length k2] 28)) w.heap.size 28 [H A0 x.cls.length k0,H A1 x.dec.length k1,H A2 x.exc.length k2]:=Box.new _ _ _ rfl;have W0E:∃W0,(w.alloc (.cells #[H A0 x.cls.length k0,H A1 x.dec.length k1,H A2 x.exc.length k2] 28))=W0:=⟨_,rfl⟩;have K1:=G (fun W=>GA A0 x.cls.length k0 W);have K2:=G (fun W(hb:By w W)=>ZU A1 x.dec.length k1 x.dec W (hN.s1.below hb) rfl hl.z1 hl.ze);have K3:=G (fun W=>WO A2 x.exc.length k2 W hl.z2);have EQ:=U (kA x=(decide (x.cls.length<=16)&&gV x.dec&&decide (x.exc.length<=12))) rfl;generalize kA x=r at *;generalize gV x.dec=sm at *;generalize decide (x.cls.length<=16)=sc at *;generalize decide (x.exc.length<=12)=se at *;clear hN hl;go_enter func33,ntmps33;go_wp2_with fail;obtain⟨W0,hW0⟩:=W0E;try rw[hW0]at B0 X0|-
 clear hW0;have d0:=X0.c 0 rfl;have d1:=X0.c 1 rfl;have d2:=X0.c 2 rfl;with_reducible refine(K1.out _).mono ?_
 rintro e W1 ⟨rfl,rfl⟩;cases sc with
 |false=>
  go_wp2_with fail;go_ret;exact⟨dK (by rw[EQ.out];rfl),B0⟩
 |true=>
  go_wp2_with fail;with_reducible refine(K2.out _ B0).mono ?_
  rintro e W1 ⟨rfl,rfl⟩;cases sm with
  |false=>
   go_wp2_with fail;go_ret;exact⟨dK (by rw[EQ.out];rfl),B0⟩
  |true=>
   go_wp2_with fail;with_reducible refine(K3.out _).mono ?_
   rintro e W3 ⟨rfl,hb3⟩;go_wp2_with fail;go_ret;exact⟨dK (by rw[EQ.out];cases se<;>rfl),B0.trans (hb3.mono B0.size)⟩
def kU(s:Stp):Bool:=decide (s.text.length<=6)&&decide (s.ask.length<=6)
def fQ(x:Nrm)(c:Col)(l:List Stp):Bool:=decide (l.length<=10)&&kA x&&fZ c&&l.all kU
structure Few(x:Nrm)(c:Col)(l:List Stp):Prop where
 n:l.length<=10
 x:cK x
 c:bW c
 e:∀s∈l,s.text.length<=6/\s.ask.length<=6
theorem xJ{x:Nrm}{c:Col}{l:List Stp}(h:fQ x c l=true):Few x c l:=by
 unfold fQ at h;simp only[Bool.and_eq_true,decide_eq_true_eq,List.all_eq_true]at h;obtain⟨⟨⟨h1,h2⟩,h3⟩,h4⟩:=h;refine⟨h1,ZV h2,(CA h3).1,fun s hs=>?_⟩;have:=h4 s hs;unfold kU at this;simpa using this
theorem MP{x:Nrm}{c:Col}{l:List Stp}(h:10<l.length):fQ x c l=false:=by
 cases e:fQ x c l with
 |false=>rfl
 |true=>have:=(xJ e).n;omega
theorem MQ{x:Nrm}{c:Col}{l:List Stp}(h:kA x=false):fQ x c l=false:=by unfold fQ;rw[h];simp
theorem MJ{x:Nrm}{c:Col}{l:List Stp}(h:fZ c=false):fQ x c l=false:=by unfold fQ;rw[h];simp
theorem MK{x:Nrm}{c:Col}{l:List Stp}{i:Nat}(hi:i<l.length)(h:kU l[i]=false):fQ x c l=false:=by
 cases e:fQ x c l with
 |false=>rfl
 |true=>
  unfold fQ at e;rw[Bool.and_eq_true,List.all_eq_true]at e;rw[e.2 _ (List.getElem_mem hi)]at h;cases h
theorem MR{x:Nrm}{c:Col}{l:List Stp}(h1:¬10<l.length)(h2:kA x=true)(h3:fZ c=true)(h4:∀t,(ht:t<l.length)->kU l[t]=true):fQ x c l=true:=by
 unfold fQ;rw[Bool.and_eq_true,Bool.and_eq_true,Bool.and_eq_true,List.all_eq_true];refine⟨⟨⟨by simp;omega,h2⟩,h3⟩,fun m hm=>?_⟩;obtain⟨t,ht,rfl⟩:=List.getElem_of_mem hm;exact h4 t ht
theorem MU(V:eQ)(x:Nrm)(c:Col)(o:Opt)(A:Oa)(a:Nat)(l:List Stp)(w:Wv)(hS:lC w V x c)(hl:jP w A l)(hlz:l.length<=9223372036854775807):
  Calls prog 9 #[.agg #[H V.A0 x.cls.length V.k0,H V.A1 x.dec.length V.k1,H V.A2 x.exc.length V.k2,H V.C c.ents.length V.a,H V.B c.grps.length V.b,I J c.base,I J c.second,I J c.third,I J o.st,I J o.va,.bool o.bk,.bool o.idn],H A l.length a] w (fH (fQ x c l) w):=by
 have B0:By w (w.alloc (.cells #[H V.A0 x.cls.length V.k0,H V.A1 x.dec.length V.k1,H V.A2 x.exc.length V.k2,H V.C c.ents.length V.a,H V.B c.grps.length V.b,I J c.base,I J c.second,I J c.third,I J o.st,I J o.va,.bool o.bk,.bool o.idn] 36)):=ba _ _;have X0:Box (w.alloc (.cells #[H V.A0 x.cls.length V.k0,H V.A1 x.dec.length V.k1,H V.A2 x.exc.length V.k2,H V.C c.ents.length V.a,H V.B c.grps.length V.b,I J c.base,I J c.second,I J c.third,I J o.st,I J o.va,.bool o.bk,.bool o.idn] 36)) w.heap.size 36 [H V.A0 x.cls.length V.k0,H V.A1 x.dec.length V.k1,H V.A2 x.exc.length V.k2,H V.C c.ents.length V.a,H V.B c.grps.length V.b,I J c.base,I J c.second,I J c.third,I J o.st,I J o.va,.bool o.bk,.bool o.idn]:=Box.new _ _ _ rfl;have W0E:∃W0,(w.alloc (.cells #[H V.A0 x.cls.length V.k0,H V.A1 x.dec.length V.k1,H V.A2 x.exc.length V.k2,H V.C c.ents.length V.a,H V.B c.grps.length V.b,I J c.base,I J c.second,I J c.third,I J o.st,I J o.va,.bool o.bk,.bool o.idn] 36))=W0:=⟨_,rfl⟩;have K1:=G (fun W(hb:By w W)=>ZN V.A0 V.k0 V.A1 V.k1 V.A2 V.k2 x W (hS.nrm.below hb) hS.ln);have K2:=G (fun W(hb:By w W)=>ZQ V.C c.ents.length V.a V.B c.grps.length V.b c W (hS.col.below hb));have SN:=G (fun h=>MP (x:=x) (c:=c) (l:=l) h);have SX:=G (fun h=>MQ (x:=x) (c:=c) (l:=l) h);have SCC:=G (fun h=>MJ (x:=x) (c:=c) (l:=l) h);have SE:=G (fun i(hi:i<l.length)h=>MK (x:=x) (c:=c) (l:=l) hi h);have SY:=G (fun h1 h2 h3 h4=>MR (x:=x) (c:=c) (l:=l) h1 h2 h3 h4);have HL:=G (fun W(hb:By w W)=>hl.below hb);have FW:=G (fun A n k m W=>MI A n k m W);unfold aQ at K2;generalize fQ x c l=r at *;generalize kA x=sx at *;generalize fZ c=sc at *;clear hS hl;go_enter func9,ntmps9;by_cases h10:10<l.length
 ·have d10:decide ((10:Int)<(l.length:Int))=true:=by simp;omega
  obtain rfl:=SN.out h10;go_wp2_with fail;go_ret;exact⟨rfl,B0⟩
 have d10:decide ((10:Int)<(l.length:Int))=false:=by simp;omega
 go_wp2_with fail;obtain⟨W0,hW0⟩:=W0E;try rw[hW0]at B0 X0|-
 clear hW0;have d0:=X0.c 0 rfl;have d1:=X0.c 1 rfl;have d2:=X0.c 2 rfl;have d3:=X0.c 3 rfl;have d4:=X0.c 4 rfl;have d5:=X0.c 5 rfl;have d6:=X0.c 6 rfl;have d7:=X0.c 7 rfl;have d8:=X0.c 8 rfl;have d9:=X0.c 9 rfl;have d10:=X0.c 10 rfl;have d11:=X0.c 11 rfl;with_reducible refine(K1.out W0 B0).mono ?_
 rintro e W1 ⟨rfl,hb1⟩;have B1:=B0.trans (hb1.mono B0.size);have X1:=X0.below hb1 X0.lt;have e0:=X1.c 0 rfl;have e1:=X1.c 1 rfl;have e2:=X1.c 2 rfl;have e3:=X1.c 3 rfl;have e4:=X1.c 4 rfl;have e5:=X1.c 5 rfl;have e6:=X1.c 6 rfl;have e7:=X1.c 7 rfl;have e8:=X1.c 8 rfl;have e9:=X1.c 9 rfl;have e10:=X1.c 10 rfl;have e11:=X1.c 11 rfl;cases sx with
 |false=>
  obtain rfl:=SX.out rfl;go_wp2_with fail;go_ret;exact⟨rfl,B1⟩
 |true=>
  clear SX;go_wp2_with fail;with_reducible refine(K2.out W1 B1).mono ?_
  rintro e W2 ⟨rfl,hb2⟩;have B2:=B1.trans (hb2.mono B1.size);clear d0 d1 d2 d3 d4 d5 d6 d7 d8 d9 d10 d11 e0 e1 e2 e3 e4 e5 e6 e7 e8 e9 e10 e11 K1 K2 X0 X1;cases sc with
  |false=>
   obtain rfl:=SCC.out rfl;go_wp2_with fail;go_ret;exact⟨rfl,B2⟩
  |true=>
   clear SCC SN;go_wp2_with fail;go_loopw [24] (fun u wr=>∃i:Nat,i<=l.length/\u=I J i/\(∀t,(ht:t<l.length)->t<i->kU l[t]=true)/\By w wr) (fun u _=>l.length-(intOf u).toNat)
   case atStart=>exact⟨0,Nat.zero_le _,rfl,fun t _ h=>by omega,B2⟩
   obtain⟨i,hi,rfl,hno,hbr⟩:=hrel;have HNO:=G hno;clear hno;by_cases hlt:i<l.length
   ·obtain⟨b1,o1,rfl,hbl,hcell⟩:=(HL.out wr hbr).at hlt
    obtain⟨T,tk,Q,qk,c0,c1,c2,c3,ht1,ht2,_⟩:=hcell i hlt;have HY:=G (fun h=>SE.out i hlt h);have HN:=G (fun h=>cW (P:=fun s:Stp=>kU s=true) hlt HNO.out h);have HE:=U (kU l[i]=(decide (l[i].text.length<=6)&&decide (l[i].ask.length<=6))) rfl;clear hcell ht1 ht2;generalize kU l[i]=sb at *;generalize l[i]=s at *;obtain⟨sid,stx,srm,sak⟩:=s;dsimp only at *;have hbs:=hbr.alloc hbr.size (.cells #[I J sid,H T stx.length tk,.bool srm,H Q sak.length qk] 51);have XS:Box (wr.alloc (.cells #[I J sid,H T stx.length tk,.bool srm,H Q sak.length qk] 51)) wr.heap.size 51 [I J sid,H T stx.length tk,.bool srm,H Q sak.length qk]:=Box.new _ _ _ rfl;have WSE:∃Ws,(wr.alloc (.cells #[I J sid,H T stx.length tk,.bool srm,H Q sak.length qk] 51))=Ws:=⟨_,rfl⟩;go_wp2_with fail;obtain⟨Ws,hWs⟩:=WSE;try rw[hWs]at hbs XS|-
    clear hWs c0 c1 c2 c3;have e1:=XS.c 1 rfl;have e3:=XS.c 3 rfl;with_reducible refine(FW.out _ _ _ _ _).mono ?_
    rintro e W5 ⟨rfl,rfl⟩;by_cases h1:stx.length<=6
    ·have q1:decide ((stx.length:Int)<=6)=true:=by simp;omega
     go_wp2_with fail;with_reducible refine(FW.out _ _ _ _ _).mono ?_
     rintro e W5 ⟨rfl,rfl⟩;by_cases h3:sak.length<=6
     ·have q3:decide ((sak.length:Int)<=6)=true:=by simp;omega
      have HQ:=G (HN.out (by rw[HE.out,decide_eq_true h1,decide_eq_true h3];rfl));clear HY HN HE;go_wp2_with fail;go_roundw
      case rel=>exact⟨i+1,by omega,by go_num,HQ.out,hbs⟩
      simp[intOf];omega
     have q3:decide ((sak.length:Int)<=6)=false:=by simp;omega
     obtain rfl:=HY.out (by rw[HE.out,decide_eq_false h3];simp);go_wp2_with fail;go_ret;exact⟨rfl,hbs⟩
    have q1:decide ((stx.length:Int)<=6)=false:=by simp;omega
    obtain rfl:=HY.out (by rw[HE.out,decide_eq_false h1];simp);go_wp2_with fail;go_ret;exact⟨rfl,hbs⟩
   obtain rfl:=SY.out h10 trivial trivial (fun t ht=>HNO.out t ht (by omega));go_wp2_with fail;go_ret;exact⟨rfl,hbr⟩
end
section
open Go.RowKit
def iZ(R:Li->Prop)(b off:Nat)(e:TypeId)(pre post:Lv)(w:Wv)(x:Ending)(w':Wv):Prop:=
 x=.returned (.tuple #[])/\∃d',R d'/\Row w' b off e pre post d'/\w.grownBy w' (Z b)
def SwR(d:Li)(p q k:Nat)(d':Li):Prop:=
 d'.length=d.length/\∀t,d'[t]?=if p<=t/\t<p+k then d[t+(q-p)]? else if q<=t/\t<q+k then d[t-(q-p)]? else d[t]?
theorem SwR.step{d d1:Li}{p q k m:Nat}{x y:Int}(h:SwR d p q k d1)(hk:k<m)(hpq:p+m<=q)(hx:d1[p+k]?=Z x)(hy:d1[q+k]?=Z y):
  SwR d p q (k+1) (Srt.swp d1 (p+k) (q+k) x y):=by
 refine⟨(Srt.swp_len _ _ _ _ _).trans h.1,fun t=>?_⟩;rw[Srt.swp_get d1 (p+k) (q+k) t x y hx hy (by omega),h.2,h.2,h.2];(repeat' split)<;>first|rfl|omega|(congr 1;omega)
theorem fT{d:Li}{i:Nat}(h:i<d.length):∃x,d[i]?=Z x:=⟨d[i],List.getElem?_eq_getElem h⟩
theorem uF(b off n c p q m:Nat)(e:TypeId)(g:Value)(d:Li)(pre post:Lv)(w:Wv)(hR:Row w b off e pre post d)(hn:d.length=n)
  (hpq:p+m<=q) (hq:q+m<=n) (hbig:n<=1099511627776) :
  Calls prog 198 #[H (Z ⟨b,off,N⟩) n c,I J p,I J q,I J m,g] w (iZ (SwR d p q m) b off e pre post w):=by
 subst hn;go_enter func198,ntmps198;go_wp2;go_loopw [10] (fun i wr=>∃(k:Nat)(d1:Li),k<=m/\i=I J k/\SwR d p q k d1/\Row wr b off e pre post d1/\w.grownBy wr (Z b)) (fun i _=>m-(intOf i).toNat)
 case atStart=>
  refine⟨0,d,Nat.zero_le _,rfl,⟨rfl,fun t=>?_⟩,hR,aO _ _⟩;rw[if_neg (by omega),if_neg (by omega)]
 obtain⟨k,d1,hk,rfl,hS,hR1,hg⟩:=hrel;by_cases hlt:k<m
 ·obtain⟨x,hx⟩:=fT (d:=d1) (i:=p+k) (by rw[hS.1];omega)
  obtain⟨y,hy⟩:=fT (d:=d1) (i:=q+k) (by rw[hS.1];omega);have cx:=hR1.cell hx;have cy:=hR1.cell hy;have fx:=hR1.frozen (off+(p+k));have fy:=hR1.frozen (off+(q+k));have hne:¬(p+k=q+k):=by omega
  have HX:=G hx;have HY:=G hy;clear hx hy;go_wp2;go_region;go_wp2;go_roundw
  case rel=>
   refine⟨k+1,Srt.swp d1 (p+k) (q+k) x y,by omega,by go_num,hS.step hlt hpq HX.out HY.out,?_,?_⟩
   ·exact(Row.set (hR1.set (by rw[hS.1];omega) y) (by rw[List.length_set,hS.1];omega) x).drew
   exact c_ (kM (kM hg _ _) _ _)
  simp[intOf];omega
 go_wp2;go_end0;obtain rfl:k=m:=by omega
 exact⟨rfl,d1,hS,hR1,hg⟩
theorem YO{d0 d1 d2:Li}{a m b i j:Nat}(him:i<=m)(hij:j<i)
  (h:∀d',Srt.Rot d1 d' (m-i) m (m+j)->Srt.Rot d0 d' a m b) (hS:SwR d1 (m-i) m j d2):∀d',Srt.Rot d2 d' (m-(i-j)) m (m+j)->Srt.Rot d0 d' a m b:=by
 intro d' hr;apply h;refine⟨hr.1.trans hS.1,fun t=>?_⟩;rw[hr.2 t];simp only[hS.2];(repeat' split)<;>first|rfl|omega|(congr 1;omega)
theorem YP{d0 d1 d2:Li}{a m b i j:Nat}(him:i<=m)(hij:i<j)
  (h:∀d',Srt.Rot d1 d' (m-i) m (m+j)->Srt.Rot d0 d' a m b) (hS:SwR d1 (m-i) (m+j-i) i d2):∀d',Srt.Rot d2 d' (m-i) m (m+(j-i))->Srt.Rot d0 d' a m b:=by
 intro d' hr;apply h;refine⟨hr.1.trans hS.1,fun t=>?_⟩;rw[hr.2 t];simp only[hS.2];(repeat' split)<;>first|rfl|omega|(congr 1;omega)
theorem YN{d0 d1 d2:Li}{a m b i:Nat}(him:i<=m)
  (h:∀d',Srt.Rot d1 d' (m-i) m (m+i)->Srt.Rot d0 d' a m b) (hS:SwR d1 (m-i) m i d2):Srt.Rot d0 d2 a m b:=by
 apply h;refine⟨hS.1,fun t=>?_⟩;rw[hS.2];(repeat' split)<;>first|rfl|omega|(congr 1;omega)
theorem BH(b off n c x m y:Nat)(e:TypeId)(g:Value)(d:Li)(pre post:Lv)(w:Wv)(hR:Row w b off e pre post d)(hn:d.length=n)
  (hxm:x<m) (hmy:m<y) (hy:y<=n) (hbig:n<=1099511627776) :
  Calls prog 197 #[H (Z ⟨b,off,N⟩) n c,I J x,I J m,I J y,g] w (iZ (fun d'=>Srt.Rot d d' x m y) b off e pre post w):=by
 subst hn;go_enter func197,ntmps197;go_wp2
 go_loopw [10,11] (fun u v wr=>∃(i j:Nat)(d1:Li),0<i/\0<j/\i<=m/\m+j<=d.length/\u=I J i/\v=I J j/\d1.length=d.length/\(∀d',Srt.Rot d1 d' (m-i) m (m+j)->Srt.Rot d d' x m y)/\
   Row wr b off e pre post d1/\w.grownBy wr (Z b)) (fun u v _=>(intOf u).toNat+(intOf v).toNat)
 case atStart=>
  refine⟨m-x,y-m,d,by omega,by omega,by omega,by omega,by go_num,by go_num,rfl,fun d' h=>?_,hR,aO _ _⟩;rw[show m-(m-x)=x by omega,show m+(y-m)=y by omega]at h;exact h
 obtain⟨i,j,d1,hi,hj,him,hjn,rfl,rfl,hl,hrot,hR1,hg⟩:=hrel;have HR:=G hrot;have HL:=G hl;clear hrot hl;by_cases h1:j<i
 ·have e1:((i:Int)!=(j:Int))=true:=by simp;omega
  have C:=G (uF b off d.length c (m-i) m j e g d1 pre post wr hR1 HL.out (by omega) (by omega) hbig);have hz:((m:Int)-(i:Int))=((m-i:Nat):Int):=by omega
  rw[<-hz]at C;clear hz;go_wp2_with fail;refine C.out.mono ?_;rintro e w1 ⟨rfl,d2,hS,hR2,hg2⟩;go_wp2_with fail;go_roundw
  case rel=>exact⟨i-j,j,d2,by omega,by omega,by omega,by omega,by go_num,rfl,hS.1.trans HL.out,YO him h1 HR.out hS,hR2,bF hg hg2⟩
  simp[intOf];omega
 by_cases h2:i<j
 ·have e1:((i:Int)!=(j:Int))=true:=by simp;omega
  have C:=G (uF b off d.length c (m-i) (m+j-i) i e g d1 pre post wr hR1 HL.out (by omega) (by omega) hbig);have hz:((m:Int)-(i:Int))=((m-i:Nat):Int):=by omega
  have hz':((m:Int)+(j:Int)-(i:Int))=((m+j-i:Nat):Int):=by omega
  rw[<-hz,<-hz']at C;clear hz hz';go_wp2_with fail;refine C.out.mono ?_;rintro e w1 ⟨rfl,d2,hS,hR2,hg2⟩;go_wp2_with fail;go_roundw
  case rel=>exact⟨i,j-i,d2,by omega,by omega,by omega,by omega,rfl,by go_num,hS.1.trans HL.out,YP him h2 HR.out hS,hR2,bF hg hg2⟩
  simp[intOf];omega
 obtain rfl:i=j:=by omega
 have e1:((i:Int)!=(i:Int))=false:=by simp
 have C:=G (uF b off d.length c (m-i) m i e g d1 pre post wr hR1 HL.out (by omega) (by omega) hbig);have hz:((m:Int)-(i:Int))=((m-i:Nat):Int):=by omega
 rw[<-hz]at C;clear hz;go_wp2_with fail;refine C.out.mono ?_;rintro e w1 ⟨rfl,d2,hS,hR2,hg2⟩;go_wp2_with fail;go_end0;exact⟨rfl,d2,YN him HR.out hS,hR2,bF hg hg2⟩
def uT(p:Prop)(w:Wv)(x:Ending)(w':Wv):Prop:=∃c:Int,x=.returned (I J c)/\(c<0 ↔ p)/\By w w'
def gZ(b B:Nat)(w0:Wv)(key:Int->Int):Prop:=
 ∀W,w0.grownBy W (Z b)->∀x y:Int,Calls prog 173 #[I J x,I J y,.pointer (Z ⟨B,0,N⟩)] W (uT (key x<key y) W)
theorem gZ.later{b B:Nat}{w0 w1:Wv}{key:Int->Int}(h:gZ b B w0 key)(hg:w0.grownBy w1 (Z b)):gZ b B w1 key:=fun W hW=>h W (bF hg hW)
theorem yF(b B off n c p q:Nat)(e:TypeId)(key:Int->Int)(d:Li)(pre post:Lv)(w:Wv)(hR:Row w b off e pre post d)(hn:d.length=n)
  (hpq:p<=q) (hq:q<=n) (hbig:n<=1099511627776) (hC:gZ b B w key) :
  Calls prog 194 #[H (Z ⟨b,off,N⟩) n c,I J p,I J q,.func (.func 173) #[] #[.pointer (Z ⟨B,0,N⟩)]] w
   (iZ (fun d'=>Srt.Done key d d' p q) b off e pre post w):=by
 subst hn;have HC:=G hC;clear hC;go_enter func194,ntmps194;go_wp2;go_loopw [8] (fun i wr=>∃(k:Nat)(d1:Li),p+1<=k/\(k<=q\/k=p+1)/\i=I J k/\Srt.Same d d1 p q/\Srt.St key d d1/\Srt.SortedOn key d1 p k/\Row wr b off e pre post d1/\w.grownBy wr (Z b)) (fun i _=>q-(intOf i).toNat)
 case atStart=>exact⟨p+1,d,Nat.le_refl _,.inr rfl,by go_num,Srt.Same.refl _ _ _,Srt.St.refl _,Srt.SortedOn.short (Nat.le_refl _),hR,aO _ _⟩
 obtain⟨k,d1,hk1,hk2,rfl,hsame,hst,hso,hR1,hg⟩:=hrel;have HA:=G hsame;have HT:=G hst;have HO:=G hso;clear hsame hst hso;by_cases hlt:k<q
 ·obtain⟨wo,rfl⟩:∃wo:Wv,wo=wr:=⟨_,rfl⟩
  go_wp2;go_loopw [9] (fun i wr=>∃(j:Nat)(d2:Li),p<=j/\j<=k/\i=I J j/\Srt.Same d d2 p q/\Srt.St key d d2/\Srt.Ins key d2 p k j/\Row wr b off e pre post d2/\w.grownBy wr (Z b)) (fun i _=>(intOf i).toNat)
  case atStart=>exact⟨k,d1,by omega,Nat.le_refl _,rfl,HA.out,HT.out,Srt.Ins.start HO.out,hR1,hg⟩
  obtain⟨j,d2,hj1,hj2,rfl,hsame,hst,hins,hR2,hg2⟩:=hrel;have HA2:=G hsame;have HT2:=G hst;have HI:=G hins;clear hsame hst hins;by_cases hpj:p<j
  ·have hjn:j<d.length:=by omega
   obtain⟨x,hx⟩:=fT (d:=d2) (i:=j-1) (by rw[HA2.out.1];omega);obtain⟨y,hy⟩:=fT (d:=d2) (i:=j) (by rw[HA2.out.1];omega);have cx:=hR2.cell hx;have cy:=hR2.cell hy;have HX:=G hx;have HY:=G hy;have C:=G (fun W hW=>HC.out W hW y x);clear hx hy;have i0:decide (p<j)=true:=by simp;omega
   have i1:IntKind.i64.wrap ((j:Int)-1)=(j:Int)-1:=IntWalk.i64_in _ (by omega);have i2:(0:Int)<=(j:Int)-1:=by omega
   have i2':(1:Int)<=(j:Int):=by omega
   have i2'':1<=j:=by omega
   have i3:((j:Int)-1).toNat=j-1:=by omega
   have i4:(j:Int)-1<(d.length:Int):=by omega
   go_wp2;refine wp_region_still_tail 14 (by kernel_rfl) (by kernel_rfl) ?_;simp only[List.take_succ_cons,List.take_zero,List.drop_succ_cons,List.drop_zero];change wpStill _ _ wr.drew _ _ _;repeat still_step
   refine wpStill_nil ?_;change wpList _ _ _ _ _ wr.drew;go_wp2_with fail;refine(C.out _ (c_ hg2)).mono ?_;rintro e w3 ⟨cc,rfl,hcc,hb3⟩;have hR3:=(hR2.drew).below hb3;have hg3:=cT (c_ hg2) hb3;have cx3:=hR3.cell HX.out;have cy3:=hR3.cell HY.out;have fx3:=hR3.frozen (off+(j-1));have fy3:=hR3.frozen (off+j);clear hR2 hg2 hb3 cx cy;by_cases hkey:key y<key x
   ·have hneg:cc<0:=hcc.2 hkey
    clear hcc;have hne:¬(j-1=j):=by omega
    go_wp2;go_region;go_wp2;go_roundw
    case rel=>
     refine⟨j-1,Srt.swp d2 (j-1) j x y,by omega,by omega,by go_num,HA2.out.trans (Srt.swp_same HX.out HY.out (by omega) (by omega) (by omega) (by omega) (by omega)),HT2.out.trans ?_,?_,?_,?_⟩
     ·have:=Srt.swp_done (key:=key) (d:=d2) (j:=j-1) HX.out (by rw[show j-1+1=j by omega];exact HY.out) hkey
      rw[show j-1+1=j by omega]at this;exact this
     ·have:=Srt.Ins.step (key:=key) (d:=d2) (a:=p) (i:=k) (j:=j-1) (x:=x) (y:=y) (by rw[show j-1+1=j by omega];exact HI.out) (by omega) (by omega) HX.out (by rw[show j-1+1=j by omega];exact HY.out) hkey
      rw[show j-1+1=j by omega]at this;exact this
     ·rw[Srt.swp,List.set_comm _ _ (by omega)]
      exact(Row.set (hR3.set (i:=j) (by rw[HA2.out.1];omega) x) (i:=j-1) (by rw[List.length_set,HA2.out.1];omega) y).drew
     exact c_ (kM (kM hg3 _ _) _ _)
    simp[intOf];omega
   have hneg:¬cc<0:=fun h=>hkey (hcc.1 h)
   clear hcc;go_wp2;go_roundw
   case rel=>
    refine⟨k+1,d2,by omega,.inl (by omega),by go_num,HA2.out,HT2.out,HI.out.stop hj1 hj2 (.inr ?_),hR3,hg3⟩;rw[Srt.kf_some HX.out,Srt.kf_some HY.out];omega
   simp[intOf];omega
  have i0:decide (p<j)=false:=by simp;omega
  go_wp2;go_quiet(fail);go_wp2;go_roundw
  case rel=>exact⟨k+1,d2,by omega,.inl (by omega),by go_num,HA2.out,HT2.out,HI.out.stop hj1 hj2 (.inl (by omega)),hR2.drewN _,xT hg2 _⟩
  simp[intOf];omega
 go_wp2;go_end0;refine⟨rfl,d1,⟨HA.out,HT.out,?_⟩,hR1,hg⟩;by_cases hkq:q<=k
 ·exact HO.out.sub (Nat.le_refl _) hkq
 omega
end
namespace Srt
section
variable {α:Type}{key:α->Int}
theorem SortedOn.le{d:List α}{a b i j:Nat}(h:SortedOn key d a b)(h1:a<=i)(h2:i<=j)(h3:j<b):kf key d i<=kf key d j:=by
 by_cases e:i=j
 ·subst e;exact Int.le_refl _
 exact h i j h1 (by omega) h3
theorem found_of{d:List α}{a m b st s0 r0:Nat}(ham:a<m)(h1:SortedOn key d a m)(h2:SortedOn key d m b)
  (hs:((a+b)/2<m/\s0=(a+b)/2+m-b/\r0=(a+b)/2)\/(m<=(a+b)/2/\s0=a/\r0=m))
  (hlo:s0<=st) (hhi:st<=r0) (hyes:∀c,s0<=c->c<st->kf key d c<=kf key d ((a+b)/2+m-1-c)) (hno:∀c,st<=c->c<r0->kf key d ((a+b)/2+m-1-c)<kf key d c) :
  Found key d a m b st:=by
 generalize hM:(a+b)/2=M at *;have hM1:2*M<=a+b:=by omega
 have hM2:a+b<=2*M+1:=by omega
 have e1:a<=st:=by omega
 have e2:st<=m:=by omega
 have e3:st<=M:=by omega
 have e4:M+m-st<=b:=by omega
 refine⟨e1,e2,?_,?_,?_,?_,?_⟩
 ·rw[hM];omega
 ·rw[hM];exact e4
 ·rw[hM];exact e3
 ·intro i j g1 g2 g3 g4
  rw[hM]at g3;by_cases e:s0<st
  ·have k1:=hyes (st-1) (by omega) (by omega)
   rw[show M+m-1-(st-1)=M+m-st by omega]at k1;have k2:=h1.le (i:=i) (j:=st-1) g1 (by omega) (by omega);have k3:=h2.le (i:=M+m-st) (j:=j) (by omega) g3 g4;omega
  omega
 intro i j g1 g2 g3 g4;rw[hM]at g4;by_cases e:st<r0
 ·have k1:=hno st (Nat.le_refl _) e
  have k2:=h1.le (i:=st) (j:=i) e1 g1 g2;have k3:=h2.le (i:=j) (j:=M+m-1-st) g3 (by omega) (by omega);omega
 omega
theorem rot_triv{d:List α}{a m b:Nat}(h1:a<=m)(h2:m<=b)(h:a=m\/m=b):Rot d d a m b:=by
 refine⟨rfl,fun t=>?_⟩;(repeat' split)<;>first|rfl|(congr 1;omega)
theorem seg_mem{d d':List α}{a b:Nat}(hs:Same d d' a b)(ht:St key d d')(hab:a<=b)(hb:b<=d.length){i:Nat}(h1:a<=i)(h2:i<b):
  ∃i',a<=i'/\i' < b/\d'[i]?=d[i']?:=by
 have p1:=parts d a a b (Nat.le_refl _) hab;have p2:=parts d' a a b (Nat.le_refl _) hab;simp only[Nat.sub_self,List.take_zero,List.nil_append]at p1 p2;have t1:d'.take a=d.take a:=by
  apply List.ext_getElem?;intro t;simp only[List.getElem?_take];split
  ·exact hs.2 t (by omega)
  rfl
 have t2:d'.drop b=d.drop b:=by
  apply List.ext_getElem?;intro t;simp only[List.getElem?_drop];exact hs.2 _ (by omega)
 rw[t1,t2]at p2;have hlen:i<d'.length:=by rw[hs.1];omega
 obtain⟨x,hx⟩:∃x,d'[i]?=Z x:=⟨_,List.getElem?_eq_getElem hlen⟩;have hf:=ht (key x);rw[p1,p2]at hf;simp only[List.filter_append,List.append_assoc,List.append_cancel_left_eq,List.append_cancel_right_eq]at hf;have hmem:x∈((d'.drop a).take (b-a)).filter (fun y=>key y==key x):=by
  rw[List.mem_filter];refine⟨?_,by simp⟩;rw[List.mem_iff_getElem?];refine⟨i-a,?_⟩;rw[List.getElem?_take,if_pos (by omega),List.getElem?_drop,show a+(i-a)=i by omega,hx]
 rw[hf,List.mem_filter]at hmem;obtain⟨q,hq⟩:=List.mem_iff_getElem?.1 hmem.1;rw[List.getElem?_take]at hq;split at hq
 ·rw[List.getElem?_drop]at hq
  exact⟨a+q,by omega,by omega,by rw[hx,hq]⟩
 cases hq
theorem seg_kf{d d':List α}{a b:Nat}(hs:Same d d' a b)(ht:St key d d')(hab:a<=b)(hb:b<=d.length){i:Nat}(h1:a<=i)(h2:i<b):
  ∃i',a<=i'/\i' < b/\kf key d' i=kf key d i':=by
 obtain⟨i',g1,g2,g3⟩:=seg_mem hs ht hab hb h1 h2;exact⟨i',g1,g2,by unfold kf;rw[g3]⟩
theorem Done.refl_of{d:List α}{a b:Nat}(h:SortedOn key d a b):Done key d d a b:=⟨Same.refl _ _ _,St.refl _,h⟩
theorem left_done{d1 d2:List α}{a st M:Nat}(h1:SortedOn key d1 a st)(h2:SortedOn key d1 st M)(g1:a<st/\st<M->Done key d1 d2 a M)(g2:¬(a<st/\st<M)->d2=d1)(hast:a<=st)(hstM:st<=M):Done key d1 d2 a M:=by
 by_cases h:a<st/\st<M
 ·exact g1 h
 rw[g2 h];refine Done.refl_of ?_;by_cases e:a=st
 ·subst e;exact h2
 obtain rfl:st=M:=by omega
 exact h1
theorem both_done{d d1 d2 d3:List α}{a M b:Nat}(haM:a<=M)(hMb:M<=b)(hb:b<=d.length)(h0:Same d d1 a b)(t0:St key d d1)
  (hx:∀i j,a<=i->i<M->M<=j->j<b->kf key d1 i<=kf key d1 j) (hl:Done key d1 d2 a M) (hr:Done key d2 d3 M b):Done key d d3 a b:=by
 refine⟨(h0.trans (hl.1.mono (Nat.le_refl _) hMb)).trans (hr.1.mono haM (Nat.le_refl _)),(t0.trans hl.2.1).trans hr.2.1,?_⟩;refine SortedOn.join (hl.2.2.same hr.1 (.inl (Nat.le_refl _))) hr.2.2 ?_;intro i j g1 g2 g3 g4;rw[hr.1.kf (t:=i) (by omega)];obtain⟨i',a1,a2,a3⟩:=seg_kf hl.1 hl.2.1 haM (by rw[h0.1];omega) g1 g2;obtain⟨j',b1,b2,b3⟩:=seg_kf hr.1 hr.2.1 hMb (by rw[hl.1.1,h0.1];omega) g3 g4;rw[a3,b3,hl.1.kf (t:=j') (by omega)];exact hx i' j' a1 a2 b1 b2
def Bl(key:α->Int)(d:List α)(bs s n:Nat):Prop:=∀r,SortedOn key d (s+r*bs) (min (s+(r+1)*bs) n)
theorem Bl.first{d:List α}{bs s n:Nat}(h:Bl key d bs s n):SortedOn key d s (min (s+bs) n):=by
 have:=h 0;simpa using this
theorem Bl.next{d:List α}{bs s n:Nat}(h:Bl key d bs s n):Bl key d bs (s+bs) n:=by
 intro r;have:=h (r+1);rw[show s+bs+r*bs=s+(r+1)*bs by rw[Nat.add_mul];omega,show s+bs+(r+1)*bs=s+(r+1+1)*bs by rw[Nat.add_mul (r+1)];omega];exact this
theorem Bl.same{d d':List α}{bs s n x y:Nat}(h:Bl key d bs s n)(hs:Same d d' x y)(hd:y<=s):Bl key d' bs s n:=fun r=>(h r).same hs (.inr (by omega))
theorem Bl.all{d:List α}{bs n:Nat}(h:Bl key d bs 0 n)(hn:n<=bs):SortedOn key d 0 n:=by
 have:=h.first
 rw[Nat.zero_add,Nat.min_eq_right hn]at this;exact this
def Pf(key:α->Int)(d:List α)(bs q:Nat):Prop:=∀r,r<q->SortedOn key d (r*bs) (r*bs+bs)
theorem Pf.zero{d:List α}{bs:Nat}:Pf key d bs 0:=fun r h=>by omega
theorem Pf.succ{d d':List α}{bs q:Nat}(h:Pf key d bs q)(hs:Same d d' (q*bs) (q*bs+bs))(hn:SortedOn key d' (q*bs) (q*bs+bs)):Pf key d' bs (q+1):=by
 intro r hr;by_cases e:r=q
 ·subst e;exact hn
 refine(h r (by omega)).same hs (.inl ?_);have:=Nat.mul_le_mul_right bs (show r+1<=q by omega);rw[Nat.add_mul]at this;omega
theorem Bl.of_pf{d d':List α}{bs q n:Nat}(h:Pf key d bs q)(hq:q*bs<=n)(hn:n<q*bs+bs)(hs:Same d d' (q*bs) n)(hl:SortedOn key d' (q*bs) n):Bl key d' bs 0 n:=by
 intro r;rw[Nat.zero_add,Nat.zero_add];by_cases e:r<q
 ·have h1:=Nat.mul_le_mul_right bs (show r+1<=q by omega)
  rw[Nat.min_eq_left (by omega),Nat.add_mul];rw[Nat.add_mul]at h1;rw[Nat.one_mul];exact(h r e).same hs (.inl (by omega))
 by_cases e2:r=q
 ·subst e2
  rw[Nat.min_eq_right (by rw[Nat.add_mul];omega)];exact hl
 have h1:=Nat.mul_le_mul_right bs (show q+1<=r by omega);rw[Nat.add_mul]at h1;intro i j g1 g2 g3;omega
theorem rot_snoc{d d1:List α}{a k:Nat}{x y:α}(h:Rot d d1 a (a+1) (k+1))(hak:a<=k)(hx:d1[k]?=Z x)(hy:d1[k+1]?=Z y):Rot d (swp d1 k (k+1) x y) a (a+1) (k+2):=by
 refine⟨(swp_len _ _ _ _ _).trans h.1,fun t=>?_⟩;rw[swp_get d1 k (k+1) t x y hx hy (by omega),h.2,h.2,h.2];(repeat' split)<;>first|rfl|omega|(congr 1;omega)
theorem rot_cons{d d1:List α}{k m:Nat}{x y:α}(h:Rot d d1 (k+1) m (m+1))(hkm:k+1<=m)(hx:d1[k]?=Z x)(hy:d1[k+1]?=Z y):Rot d (swp d1 k (k+1) x y) k m (m+1):=by
 refine⟨(swp_len _ _ _ _ _).trans h.1,fun t=>?_⟩;rw[swp_get d1 k (k+1) t x y hx hy (by omega),h.2,h.2,h.2];(repeat' split)<;>first|rfl|omega|(congr 1;omega)
end
end Srt
section
open Go.RowKit
theorem zAg(b B off n c p y:Nat)(e:TypeId)(key:Int->Int)(d:Li)(pre post:Lv)(w:Wv)(hR:Row w b off e pre post d)(hn:d.length=n)
  (hpy:p+1<y) (hy:y<=n) (hbig:n<=1099511627776) (hC:gZ b B w key) (hs:Srt.SortedOn key d (p+1) y) :
  Calls prog 195 #[H (Z ⟨b,off,N⟩) n c,I J p,I J ((p:Int)+1),I J y,.func (.func 173) #[] #[.pointer (Z ⟨B,0,N⟩)]] w
   (iZ (fun d'=>Srt.Done key d d' p y) b off e pre post w):=by
 subst hn;have HC:=G hC;have HS:=G hs;clear hC hs;obtain⟨x,hx⟩:=fT (d:=d) (i:=p) (by omega);have HX:=G hx;clear hx;have e1:((p:Int)+1-(p:Int)==1)=true:=by simp;omega
 go_enter func195,ntmps195;go_wp2_with fail
 go_loopw [10,11] (fun u v wr=>∃i j:Nat,p+1<=i/\i<=j/\j<=y/\u=I J i/\v=I J j/\(∀t,p+1<=t->t<i->Srt.kf key d t<Srt.kf key d p)/\(∀t,j<=t->t<y->Srt.kf key d p<=Srt.kf key d t)/\
   Row wr b off e pre post d/\w.grownBy wr (Z b)) (fun u v _=>(intOf v).toNat-(intOf u).toNat)
 case atStart=>exact⟨p+1,y,Nat.le_refl _,by omega,Nat.le_refl _,by go_num,rfl,fun t h1 h2=>by omega,fun t h1 h2=>by omega,hR,aO _ _⟩
 obtain⟨i,j,hi,hij,hj,rfl,rfl,hlo,hhi,hR1,hg⟩:=hrel;have HLO:=G hlo;have HHI:=G hhi;clear hlo hhi;by_cases hlt:i<j
 ·obtain⟨h,hh,h1,h2,h3⟩:∃h:Nat,((i:Int)+(j:Int))/2=(h:Int)/\i<=h/\h<j/\h<d.length:=⟨(i+j)/2,by omega,by omega,by omega,by omega⟩
  obtain⟨z,hz⟩:=fT (d:=d) (i:=h) h3;have cx:=hR1.cell HX.out;have cz:=hR1.cell hz;have HZ:=G hz;have C:=G (fun W hW=>HC.out W hW z x);clear hz;have hpn:p<d.length:=by omega
  go_wp2_with fail;clear hh;refine wp_region_still_tail 9 (by kernel_rfl) (by kernel_rfl) ?_;simp only[List.take_succ_cons,List.take_zero,List.drop_succ_cons,List.drop_zero];change wpStill _ _ wr.drew _ _ _;repeat still_step
  refine wpStill_nil ?_;change wpList _ _ _ _ _ wr.drew;go_wp2_with fail;refine(C.out _ (c_ hg)).mono ?_;rintro e w3 ⟨cc,rfl,hcc,hb3⟩;have hR3:=(hR1.drew).below hb3;have hg3:=cT (c_ hg) hb3;clear hR1 hg hb3 cx cz;by_cases hkey:key z<key x
  ·have hneg:cc<0:=hcc.2 hkey
   clear hcc;go_wp2;go_roundw
   case rel=>
    refine⟨h+1,j,by omega,by omega,hj,by go_num,rfl,fun t g1 g2=>?_,HHI.out,hR3,hg3⟩;have k1:=HS.out.le (i:=t) (j:=h) g1 (by omega) (by omega);rw[Srt.kf_some HZ.out]at k1;rw[Srt.kf_some HX.out];omega
   simp[intOf];omega
  have hneg:¬cc<0:=fun g=>hkey (hcc.1 g)
  clear hcc;go_wp2;go_roundw
  case rel=>
   refine⟨i,h,hi,by omega,by omega,rfl,rfl,HLO.out,fun t g1 g2=>?_,hR3,hg3⟩;have k1:=HS.out.le (i:=h) (j:=t) (by omega) g1 g2;rw[Srt.kf_some HZ.out]at k1;rw[Srt.kf_some HX.out];omega
  simp[intOf];omega
 obtain rfl:i=j:=by omega
 obtain⟨wo,rfl⟩:∃wo:Wv,wo=wr:=⟨_,rfl⟩;go_wp2_with fail;go_loopw [13] (fun u wr=>∃(k:Nat)(d1:Li),p<=k/\k+1<=i/\u=I J k/\Srt.Rot d d1 p (p+1) (k+1)/\Row wr b off e pre post d1/\w.grownBy wr (Z b)) (fun u _=>i-(intOf u).toNat)
 case atStart=>exact⟨p,d,Nat.le_refl _,hi,rfl,Srt.rot_triv (by omega) (by omega) (.inr rfl),hR1,hg⟩
 obtain⟨k,d1,hk1,hk2,rfl,hrot,hR2,hg2⟩:=hrel;by_cases hki:k+1<i
 ·obtain⟨x1,hx1⟩:=fT (d:=d1) (i:=k) (by rw[hrot.1];omega)
  obtain⟨y1,hy1⟩:=fT (d:=d1) (i:=k+1) (by rw[hrot.1];omega);have cx:=hR2.cell hx1;have cy:=hR2.cell hy1;have fx:=hR2.frozen (off+k);have fy:=hR2.frozen (off+(k+1));have HX1:=G hx1;have HY1:=G hy1;have HRO:=G hrot;clear hx1 hy1 hrot;go_wp2;go_region;go_wp2;go_roundw
  case rel=>
   refine⟨k+1,Srt.swp d1 k (k+1) x1 y1,by omega,by omega,by go_num,Srt.rot_snoc HRO.out hk1 HX1.out HY1.out,?_,?_⟩
   ·exact(Row.set (hR2.set (i:=k) (by rw[HRO.out.1];omega) y1) (i:=k+1) (by rw[List.length_set,HRO.out.1];omega) x1).drew
   exact c_ (kM (kM hg2 _ _) _ _)
  simp[intOf];omega
 obtain rfl:i=k+1:=by omega
 have HRO:=G hrot;clear hrot;go_wp2;go_end0;exact⟨rfl,d1,Srt.Done.left HRO.out hi hj hy HS.out HLO.out HHI.out,hR2,hg2⟩
theorem zAh(b B off n c p m:Nat)(e:TypeId)(key:Int->Int)(d:Li)(pre post:Lv)(w:Wv)(hR:Row w b off e pre post d)(hn:d.length=n)
  (hpm:p+1<m) (hm:m+1<=n) (hbig:n<=1099511627776) (hC:gZ b B w key) (hs:Srt.SortedOn key d p m) :
  Calls prog 195 #[H (Z ⟨b,off,N⟩) n c,I J p,I J m,I J ((m:Int)+1),.func (.func 173) #[] #[.pointer (Z ⟨B,0,N⟩)]] w
   (iZ (fun d'=>Srt.Done key d d' p (m+1)) b off e pre post w):=by
 subst hn;have HC:=G hC;have HS:=G hs;clear hC hs;obtain⟨x,hx⟩:=fT (d:=d) (i:=m) (by omega);have HX:=G hx;clear hx;have e1:((m:Int)-(p:Int)==1)=false:=by simp;omega
 have e2:((m:Int)+1-(m:Int)==1)=true:=by simp;omega
 go_enter func195,ntmps195;go_wp2_with fail
 go_loopw [14,15] (fun u v wr=>∃i j:Nat,p<=i/\i<=j/\j<=m/\u=I J i/\v=I J j/\(∀t,p<=t->t<i->Srt.kf key d t<=Srt.kf key d m)/\(∀t,j<=t->t<m->Srt.kf key d m<Srt.kf key d t)/\
   Row wr b off e pre post d/\w.grownBy wr (Z b)) (fun u v _=>(intOf v).toNat-(intOf u).toNat)
 case atStart=>exact⟨p,m,Nat.le_refl _,by omega,Nat.le_refl _,rfl,rfl,fun t h1 h2=>by omega,fun t h1 h2=>by omega,hR,aO _ _⟩
 obtain⟨i,j,hi,hij,hj,rfl,rfl,hlo,hhi,hR1,hg⟩:=hrel;have HLO:=G hlo;have HHI:=G hhi;clear hlo hhi;by_cases hlt:i<j
 ·obtain⟨h,hh,h1,h2,h3⟩:∃h:Nat,((i:Int)+(j:Int))/2=(h:Int)/\i<=h/\h<j/\h<d.length:=⟨(i+j)/2,by omega,by omega,by omega,by omega⟩
  obtain⟨z,hz⟩:=fT (d:=d) (i:=h) h3;have cx:=hR1.cell HX.out;have cz:=hR1.cell hz;have HZ:=G hz;have C:=G (fun W hW=>HC.out W hW x z);clear hz;have hpn:m<d.length:=by omega
  go_wp2_with fail;clear hh;refine wp_region_still_tail 9 (by kernel_rfl) (by kernel_rfl) ?_;simp only[List.take_succ_cons,List.take_zero,List.drop_succ_cons,List.drop_zero];change wpStill _ _ wr.drew _ _ _;repeat still_step
  refine wpStill_nil ?_;change wpList _ _ _ _ _ wr.drew;go_wp2_with fail;refine(C.out _ (c_ hg)).mono ?_;rintro e w3 ⟨cc,rfl,hcc,hb3⟩;have hR3:=(hR1.drew).below hb3;have hg3:=cT (c_ hg) hb3;clear hR1 hg hb3 cx cz;by_cases hkey:key x<key z
  ·have hneg:decide (cc<0)=true:=by simpa using hcc.2 hkey
   clear hcc;go_wp2;go_roundw
   case rel=>
    refine⟨i,h,hi,by omega,by omega,rfl,rfl,HLO.out,fun t g1 g2=>?_,hR3,hg3⟩;have k1:=HS.out.le (i:=h) (j:=t) (by omega) g1 g2;rw[Srt.kf_some HZ.out]at k1;rw[Srt.kf_some HX.out];omega
   simp[intOf];omega
  have hneg:decide (cc<0)=false:=by simpa using fun g=>hkey (hcc.1 g)
  clear hcc;go_wp2;go_roundw
  case rel=>
   refine⟨h+1,j,by omega,by omega,hj,by go_num,rfl,fun t g1 g2=>?_,HHI.out,hR3,hg3⟩;have k1:=HS.out.le (i:=t) (j:=h) g1 (by omega) (by omega);rw[Srt.kf_some HZ.out]at k1;rw[Srt.kf_some HX.out];omega
  simp[intOf];omega
 obtain rfl:i=j:=by omega
 obtain⟨wo,rfl⟩:∃wo:Wv,wo=wr:=⟨_,rfl⟩;go_wp2_with fail;go_loopw [17] (fun u wr=>∃(k:Nat)(d1:Li),i<=k/\k<=m/\u=I J k/\Srt.Rot d d1 k m (m+1)/\Row wr b off e pre post d1/\w.grownBy wr (Z b)) (fun u _=>(intOf u).toNat)
 case atStart=>exact⟨m,d,hj,Nat.le_refl _,rfl,Srt.rot_triv (by omega) (by omega) (.inl rfl),hR1,hg⟩
 obtain⟨k,d1,hk1,hk2,rfl,hrot,hR2,hg2⟩:=hrel;by_cases hki:i<k
 ·obtain⟨x1,hx1⟩:=fT (d:=d1) (i:=k-1) (by rw[hrot.1];omega)
  obtain⟨y1,hy1⟩:=fT (d:=d1) (i:=k) (by rw[hrot.1];omega);have cx:=hR2.cell hx1;have cy:=hR2.cell hy1;have fx:=hR2.frozen (off+(k-1));have fy:=hR2.frozen (off+k);have HX1:=G hx1;have HY1:=G hy1;have HRO:=G hrot;clear hx1 hy1 hrot;have i1:IntKind.i64.wrap ((k:Int)-1)=(k:Int)-1:=IntWalk.i64_in _ (by omega);have i2:(0:Int)<=(k:Int)-1:=by omega
  have i2':(1:Int)<=(k:Int):=by omega
  have i2'':1<=k:=by omega
  have i3:((k:Int)-1).toNat=k-1:=by omega
  have i4:(k:Int)-1<(d.length:Int):=by omega
  have hne:¬(k-1=k):=by omega
  go_wp2;go_region;go_wp2;go_roundw
  case rel=>
   refine⟨k-1,Srt.swp d1 (k-1) k x1 y1,by omega,by omega,by go_num,?_,?_,?_⟩
   ·have:=Srt.rot_cons (d:=d) (d1:=d1) (k:=k-1) (m:=m) (x:=x1) (y:=y1) (by rw[show k-1+1=k by omega];exact HRO.out) (by omega) HX1.out (by rw[show k-1+1=k by omega];exact HY1.out)
    rw[show k-1+1=k by omega]at this;exact this
   ·rw[Srt.swp,List.set_comm _ _ (by omega)]
    exact(Row.set (hR2.set (i:=k) (by rw[HRO.out.1];omega) x1) (i:=k-1) (by rw[List.length_set,HRO.out.1];omega) y1).drew
   exact c_ (kM (kM hg2 _ _) _ _)
  simp[intOf];omega
 obtain rfl:i=k:=by omega
 have HRO:=G hrot;clear hrot;go_wp2;go_end0;exact⟨rfl,d1,Srt.Done.right HRO.out hj hi hm HS.out HLO.out HHI.out,hR2,hg2⟩
end
end Go.Proofs.YtpfbnikbebccjaaGreatDoor
