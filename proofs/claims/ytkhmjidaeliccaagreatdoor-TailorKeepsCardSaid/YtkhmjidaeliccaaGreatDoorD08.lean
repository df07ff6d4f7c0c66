import Derived.Test.YtkhmjidaeliccaaGreatDoorD00
import Derived.Test.YtkhmjidaeliccaaGreatDoorD01
import Derived.Test.YtkhmjidaeliccaaGreatDoorD02
import Derived.IntWalk
import Derived.WalkSpells
import Derived.Outline
import Derived.Test.YtkhmjidaeliccaaGreatDoorProg
import Derived.Deep.QuietTactic
import Derived.BigQuiet
import Derived.Deep.Cut
import Derived.Deep.AppendLies
set_option maxRecDepth 100000
set_option maxHeartbeats 51200000
namespace Go.Proofs.YtkhmjidaeliccaaGreatDoor
open Option renaming none->N,some->Z
open Value renaming int->I,slice->H
open IntKind renaming i64->J
open Go.Proofs.Tryz
section
open Go.RowKit Go.Maps Go.WideMaps
theorem r_:Keyed prog 9:=string_keyed underlying9
theorem AM(w:Wv):(zeroValue 4).run prog w=.ok (.bool false) w:=by kernel_rfl
theorem rW{s:ByteArray}(h:s.size<=9223372036854775807):keyOf prog 9 (.string s)=Z (nO s):=keyOf_string_mk underlying9 (by unfold maxLen;exact h)
theorem tD{s:ByteArray}(h:s.size<=9223372036854775807):sok s:=by unfold sok maxLen;exact h
instance (s:ByteArray) (l:List ByteArray):Decidable (s∈l):=decidable_of_iff (l.any (fun x=>decide (x=s))=true) (by simp)
def jO(l:List ByteArray)(s:ByteArray):Option Value:=if s∈l then Z (.bool true)else N
theorem UF{l:List ByteArray}{s:ByteArray}(h:s∈l):(jO l s).getD (.bool false)=.bool true:=by unfold jO;rw[if_pos h];rfl
theorem UD{l:List ByteArray}{s:ByteArray}(h:s ∉ l):(jO l s).getD (.bool false)=.bool false:=by unfold jO;rw[if_neg h];rfl
theorem UE(l:List ByteArray)(s:ByteArray)(x:ByteArray):jO (l++[s]) x=if x=s then Z (.bool true)else jO l x:=by
 unfold jO;by_cases h:x=s
 ·simp[h]
 simp[h]
theorem FI(A:Oa)(n a:Nat)(B:Oa)(m b:Nat)(c:Col)(w:Wv)(h:aY w A n B m c)(hb65:c.base<=65502)(hbig:m<=1048576):
  Calls prog 68 #[aS A n a B m b c] w (bU (cF c.base c.grps) w):=by
 obtain⟨ents,gs,base,second,third⟩:=c;obtain⟨_,hG,hn,hm,hs⟩:=h;dsimp only at hG hn hm hs hb65;subst hm;unfold aS;dsimp only;have HS:=G (fun i(hi:i<gs.length)=>hs gs[i] (List.getElem_mem hi));have HG:=G hG;have hmm:=@run_makeMap prog;clear hs hG hn;go_enter func68,ntmps68;go_wp2;have B0:By w (w.alloc (.cells #[H A n a,H B gs.length b,I J base,I J second,I J third] 32)):=ba _ _;have s0:(w.alloc (.cells #[H A n a,H B gs.length b,I J base,I J second,I J third] 32)).heap.size=w.heap.size+1:=by simp
 have k1:(w.alloc (.cells #[H A n a,H B gs.length b,I J base,I J second,I J third] 32)).cell? ⟨w.heap.size,1,N⟩=Z (H B gs.length b):=by simp
 have k2:(w.alloc (.cells #[H A n a,H B gs.length b,I J base,I J second,I J third] 32)).cell? ⟨w.heap.size,2,N⟩=Z (I J base):=by simp
 obtain⟨W0,hW0⟩:∃W0,w.alloc (.cells #[H A n a,H B gs.length b,I J base,I J second,I J third] 32)=W0:=⟨_,rfl⟩;rw[hW0]at B0 s0 k1 k2|-;clear hW0;have HG0:=G (HG.out.below B0);have K:=G (And.intro k1 k2);have S0:=G s0;have hx0:w.heap.size<W0.heap.size:=by omega
 clear HG k1 k2 s0;go_loopw [4,15] (fun _ u wr=>∃i:Nat,i<=gs.length/\u=I J i/\(∀t,(ht:t<gs.length)->t<i->bW gs[t].name=true)/\By W0 wr) (fun _ u _=>gs.length-(intOf u).toNat)
 case atStart=>exact⟨0,Nat.zero_le _,rfl,fun t _ h=>by omega,Below.refl _ _⟩
 obtain⟨i,hi,rfl,h6,hb⟩:=hrel;have H6:=G h6;clear h6;by_cases hlt:i<gs.length
 ·obtain⟨b1,o1,rfl,hbl,hcell⟩:=(HG0.out.below hb).at hlt
  obtain⟨c1,c2,c3⟩:=hcell i hlt;have hss:=HS.out i hlt;have HB:=G (fun h=>LA (base:=base) hlt h);have HN:=G (fun h=>eK (P:=fun g=>bW g.name=true) hlt H6.out h);clear hcell;generalize gs[i].name=nm at *;generalize gs[i].lo=lo at *;generalize gs[i].hi=hi' at *;go_wp2_with fail;refine(MI nm _ hss).mono ?_;rintro e w1 ⟨rfl,rfl⟩;cases hnm:bW nm
  ·go_wp2_with fail
   go_ret;exact⟨aQ (HB.out hnm).symm,B0.trans ((hb.alloc hb.size _).mono B0.size)⟩
  go_wp2_with fail;go_roundw
  case rel=>exact⟨i+1,by omega,by go_num,HN.out hnm,hb.alloc hb.size _⟩
  simp[intOf];omega
 have H6':=G (fun t(ht:t<gs.length)=>H6.out t ht (by omega));clear H6;have f1:=(hb.cell (p:=⟨w.heap.size,1,N⟩) hx0).trans K.out.1;have hx1:w.heap.size<wr.heap.size:=by have:=hb.size;omega
 go_wp2;have hM0:=aR.made prog 9 nO sok wr;have hb1:=hb.alloc hb.size (.map #[] 0);obtain⟨mb,hmb⟩:∃mb,wr.heap.size=mb:=⟨_,rfl⟩;rw[hmb]at hM0|-;have hmb0:W0.heap.size<=mb:=by have:=hb.size;omega
 obtain⟨W1,hW1⟩:∃W1,wr.alloc (.map #[] 0)=W1:=⟨_,rfl⟩;rw[hW1]at hM0 hb1|-;clear hW1 hmb hb f1 hx1;go_loopw [7,28] (fun _ u wr=>∃i:Nat,i<=gs.length/\u=I J i/\(nms gs i).Nodup/\AY prog 9 wr mb i (jO (nms gs i))/\By W0 wr) (fun _ u _=>gs.length-(intOf u).toNat)
 case atStart=>exact⟨0,Nat.zero_le _,rfl,by simp[nms],hM0.ext (fun x _=>by simp[nms,jO]),hb1⟩
 obtain⟨i,hi,rfl,h5,hM,hb⟩:=hrel;have H5:=G h5;clear h5;have HM:=G hM;clear hM;by_cases hlt:i<gs.length
 ·obtain⟨b1,o1,rfl,hbl,hcell⟩:=(HG0.out.below hb).at hlt
  obtain⟨c1,c2,c3⟩:=hcell i hlt;have hss:=HS.out i hlt;have HB:=G (fun h=>K_ (base:=base) H6'.out (PK hlt h));have HN:=G (fun h=>PM hlt H5.out h);have HE:=G (sI hlt);clear hcell;generalize gs[i].name=nm at *;generalize gs[i].lo=lo at *;generalize gs[i].hi=hi' at *;by_cases hin:nm∈nms gs i
  ·have HV:=G (UF hin)
   go_wp2_with(at_lookup;refine pM rfl _ _ 184 rfl (HM.out.alloc _) r_ underlying184 (AM _) rfl rfl (tD hss) (rW hss) ?_;rw[HV.out]);go_ret;exact⟨aQ (HB.out hin).symm,B0.trans ((hb.alloc hb.size _).mono B0.size)⟩
  have HV:=G (UD hin);have HP:=G (fun x=>UE (nms gs i) nm x)
  go_wp2_with(first
   |(at_lookup;refine pM rfl _ _ 184 rfl (HM.out.alloc _) r_ underlying184 (AM _) rfl rfl (tD hss) (rW hss) ?_;rw[HV.out])
   | (at_mapUpdate;refine nT rfl _ _ _ 184 rfl (HM.out.alloc _) r_ underlying184 (by unfold maxLen;omega) rfl rfl rfl (tD hss) (rW hss) (fun y _ e=>UP e) ?_;intro w9 hM9 hg9))
  have hb9:=lO (hb.alloc hb.size (.cells #[.string nm,I J lo,I J hi'] 98)) hg9 hmb0 (by have:=hb.size;simp;omega);have HM9:=G hM9;clear hM9 hg9;go_roundw
  case rel=>exact⟨i+1,by omega,by go_num,HN.out hin,by rw[HE.out];exact HM9.out.ext (fun x _=>HP.out x),hb9⟩
  simp[intOf];omega
 have H5':=G (show(gs.map Grp.name).Nodup by rw[<-PJ,show gs.length=i by omega];exact H5.out);clear H5 HM;have f1:=(hb.cell (p:=⟨w.heap.size,1,N⟩) hx0).trans K.out.1;go_wp2;clear f1;go_loopw [9,43] (fun _ u wr=>∃i:Nat,i<=gs.length/\u=I J i/\(∀t,(ht:t<gs.length)->t<i->¬gD base gs[t])/\By W0 wr) (fun _ u _=>gs.length-(intOf u).toNat)
 case atStart=>exact⟨0,Nat.zero_le _,rfl,fun t _ h=>by omega,hb⟩
 obtain⟨i,hi,rfl,h1,hb⟩:=hrel;have H1:=G h1;clear h1;have hx1:w.heap.size<wr.heap.size:=by have:=hb.size;omega
 by_cases hlt:i<gs.length
 ·obtain⟨b1,o1,rfl,hbl,hcell⟩:=(HG0.out.below hb).at hlt
  obtain⟨c1,c2,c3⟩:=hcell i hlt;have f2:=(hb.cell (p:=⟨w.heap.size,2,N⟩) hx0).trans K.out.2;have HD:=U (gD base gs[i] ↔ (gs[i].lo<1\/gs[i].hi<gs[i].lo\/base<=gs[i].hi)) Iff.rfl;have HB:=G (fun h=>KU (base:=base) H6'.out H5'.out hlt h);have HN:=G (fun h=>eK (P:=fun g=>¬gD base g) hlt H1.out h);clear hcell;generalize gD base gs[i]=Bd at *;generalize gs[i].name=nm at *;generalize gs[i].lo=lo at *;generalize gs[i].hi=hi' at *;go_wp2
  all_goals first
   | (go_ret
      exact⟨aQ (HB.out (HD.out.2 (by omega))).symm,B0.trans ((hb.alloc hb.size _).mono B0.size)⟩)
   | (go_roundw
      case rel=>exact⟨i+1,by omega,by go_num,HN.out (fun h=>by have:=HD.out.1 h;omega),hb.alloc hb.size _⟩
      case measure=>simp[intOf];omega)
 have H1':=G (fun t(ht:t<gs.length)=>H1.out t ht (by omega));clear H1;have f1:=(hb.cell (p:=⟨w.heap.size,1,N⟩) hx0).trans K.out.1;go_wp2;clear f1;go_loopw [10,11,68] (fun _ _ u wr=>∃i:Nat,i<=gs.length/\u=I J i/\(∀t,(ht:t+1<gs.length)->t+1<i->gs[t+1].lo=gs[t].hi+1)/\By W0 wr) (fun _ _ u _=>gs.length-(intOf u).toNat)
 case atStart=>exact⟨0,Nat.zero_le _,rfl,fun t _ h=>by omega,hb⟩
 obtain⟨i,hi,rfl,h4,hb⟩:=hrel;have H4:=G h4;clear h4;have hx1:w.heap.size<wr.heap.size:=by have:=hb.size;omega
 by_cases hlt:i<gs.length
 ·obtain⟨b1,o1,rfl,hbl,hcell⟩:=(HG0.out.below hb).at hlt
  obtain⟨c1,c2,c3⟩:=hcell i hlt;have f1:=(hb.cell (p:=⟨w.heap.size,1,N⟩) hx0).trans K.out.1;by_cases hp:0<i
  ·have hp1:i-1<gs.length:=by omega
   have d3:=(hcell (i-1) hp1).2.2;have HX:=H1'.out (i-1) hp1;unfold gD at HX;have e1:i-1+1=i:=by omega
   have HB:=G (fun(h:gs[i].lo≠(gs[i-1]'hp1).hi+1)=>KZ (base:=base) H6'.out H5'.out H1'.out (k:=i-1) (by omega) (by simpa only[e1]using h))
   have HN:=G (fun(h:gs[i].lo=(gs[i-1]'hp1).hi+1)=>show ∀t,(ht:t+1<gs.length)->t+1<i+1->gs[t+1].lo=gs[t].hi+1 from fun t ht g=>by
    by_cases e:t+1<i
    ·exact H4.out t ht e
    ·obtain rfl:t=i-1:=by omega
     simpa only[e1]using h)
   have hz:1<=(gs[i-1]'hp1).hi/\(gs[i-1]'hp1).hi<65502:=by omega
   clear hcell e1 HX;generalize gs[i].name=nm at *;generalize gs[i].lo=lo at *;generalize gs[i].hi=hi' at *;generalize (gs[i-1]'hp1).hi=ph at *;have i1:(0:Int)<=(i:Int)-1:=by omega
   have i2:(i:Int)-1<(gs.length:Int):=by omega
   have i3:((i:Int)-1).toNat=i-1:=by omega
   have w1:IntKind.i64.wrap ((i:Int)-1)=(i:Int)-1:=IntWalk.i64_in _ (by omega);have w2:IntKind.i64.wrap (ph+1)=ph+1:=IntWalk.i64_in _ (by omega);by_cases hq:lo=ph+1
   ·have q1:(lo !=ph+1)=false:=by simpa using hq
    have HQ:=G (HN.out hq);clear hq HN HB;go_wp2_with fail;go_quiet(fail);clear i3 w1 w2;go_wp2_with fail;go_roundw
    case rel=>exact⟨i+1,by omega,by go_num,HQ.out,⟨hb.os,hb.tape,hb.output,(hb.alloc hb.size _).size,(hb.alloc hb.size _).block⟩⟩
    simp[intOf];omega
   have q1:(lo !=ph+1)=true:=by simpa using hq
   have HQ:=G (HB.out hq);clear hq HN HB;go_wp2_with fail;go_quiet(fail);clear i3 w1 w2;go_wp2_with fail;go_ret;exact⟨aQ HQ.out.symm,B0.trans (Below.mono ⟨hb.os,hb.tape,hb.output,(hb.alloc hb.size _).size,(hb.alloc hb.size _).block⟩ B0.size)⟩
  have hp0:decide ((0:Int)<(i:Int))=false:=by simp;omega
  have HQ:=U (∀t,(ht:t+1<gs.length)->t+1<i+1->gs[t+1].lo=gs[t].hi+1) (fun t ht g=>by omega);clear hcell;generalize gs[i].name=nm at *;generalize gs[i].lo=lo at *;generalize gs[i].hi=hi' at *;go_wp2_with fail;go_quiet(fail);go_wp2_with fail;go_roundw
  case rel=>exact⟨i+1,by omega,by go_num,HQ.out,⟨hb.os,hb.tape,hb.output,(hb.alloc hb.size _).size,(hb.alloc hb.size _).block⟩⟩
  simp[intOf];omega
 have HF:=G (KQ (base:=base) H6'.out H5'.out H1'.out (fun t ht=>H4.out t ht (by omega)));go_wp2;go_ret;exact⟨aQ HF.out.symm,B0.trans (hb.mono B0.size)⟩
section
variable {base:Int}{x:Ent}
theorem JD{α:Type}{f:α->Int}{l:List α}{k:Nat}(hk:k<l.length)(h0:∀t,(ht:t<l.length)->t<k->f l[t]=0)(h:f l[k]≠0):gV (l.map f)=f l[k]:=by
 induction l generalizing k with
 |nil=>simp at hk
 |cons a r ih=>
  cases k with
  |zero=>
   simp only[List.getElem_cons_zero]at *;simp[gV,h]
  |succ k=>
   have:=h0 0 (by simp) (by omega);simp only[List.getElem_cons_zero]at this;simp only[List.map_cons,gV,this,if_true,List.getElem_cons_succ];exact ih (by simpa using hk) (fun t ht h9=>by have:=h0 (t+1) (by simpa using ht) (by omega);simpa using this) (by simpa using h)
theorem vR{α:Type}{f:α->Int}{l:List α}(h0:∀t,(ht:t<l.length)->f l[t]=0):gV (l.map f)=0:=by
 induction l with
 |nil=>rfl
 |cons a r ih=>
  have:=h0 0 (by simp);simp only[List.getElem_cons_zero]at this;simp only[List.map_cons,gV,this,if_true];exact ih fun t ht=>by have:=h0 (t+1) (by simpa using ht);simpa using this
def hH(x:Ent):Prop:=x.codes.length<1\/8<x.codes.length\/16<x.elems.length
theorem IJ(h:hH x):bJ base x=2:=by unfold hH at h;unfold bJ;rw[if_pos h]
theorem II(h:¬hH x){k:Nat}(hk:k<x.codes.length)(hc:inR 0 1114111 x.codes[k]=false):bJ base x=1:=by
 unfold hH at h;unfold bJ;rw[if_neg h,if_pos (jA hk (by simpa using oQ.1 hc))]
theorem qW(h:∀t,(ht:t<x.codes.length)->inR 0 1114111 x.codes[t]=true):x.codes.any (fun c=>decide (c<0\/1114111<c))=false:=gC fun t ht=>by
 have:=jH.1 (h t ht);simp;omega
theorem IK(h:¬hH x)(hc:∀t,(ht:t<x.codes.length)->inR 0 1114111 x.codes[t]=true){k:Nat}(hk:k<x.elems.length)(h0:∀t,(ht:t<x.elems.length)->t<k->eG x.elems[t]=0)(he:eG x.elems[k]≠0):bJ base x=eG x.elems[k]:=by
 unfold hH at h;unfold bJ;rw[if_neg h,if_neg (by rw[qW hc];simp),JD hk h0 he,if_pos he]
theorem IQ(h:¬hH x)(hc:∀t,(ht:t<x.codes.length)->inR 0 1114111 x.codes[t]=true)(h0:∀t,(ht:t<x.elems.length)->eG x.elems[t]=0){k:Nat}(hk:k<x.elems.length)(he:base<=x.elems[k].p):bJ base x=1:=by
 unfold hH at h;unfold bJ;rw[if_neg h,if_neg (by rw[qW hc];simp),vR h0,if_neg (by simp),if_pos (jA hk (by simpa using he))]
theorem IG(h:¬hH x)(hc:∀t,(ht:t<x.codes.length)->inR 0 1114111 x.codes[t]=true)(h0:∀t,(ht:t<x.elems.length)->eG x.elems[t]=0)(he:∀t,(ht:t<x.elems.length)->¬base<=x.elems[t].p):bJ base x=0:=by
 unfold hH at h;unfold bJ;rw[if_neg h,if_neg (by rw[qW hc];simp),vR h0,if_neg (by simp),if_neg (by rw[gC fun t ht=>by simpa using he t ht];simp)]
end
theorem FH(C:Oa)(c:Nat)(E:Oa)(d:Nat)(x:Ent)(base:Int)(w:Wv)(hC:aB w C x.codes)(hE:cB w E x.elems)(h1:x.codes.length<=1048576)(h2:x.elems.length<=1048576):
  Calls prog 69 #[.agg #[H C x.codes.length c,H E x.elems.length d],I J base] w (bU (bJ base x) w):=by
 have HSZ:=U (hH x ↔ (x.codes.length<1\/8<x.codes.length\/16<x.elems.length)) Iff.rfl;have HC:=G hC;have HE:=G hE;have B0:By w (w.alloc (.cells #[H C x.codes.length c,H E x.elems.length d] 75)):=ba _ _;clear hC hE;by_cases hsz:x.codes.length<1\/8<x.codes.length\/16<x.elems.length
 ·have HQ:=G (IJ (base:=base) (HSZ.out.2 hsz))
  generalize bJ base x=R at *;obtain hsz|⟨g1,hsz⟩|⟨g1,g2,hsz⟩:x.codes.length<1\/(¬x.codes.length<1/\8<x.codes.length)\/(¬x.codes.length<1/\¬8<x.codes.length/\16<x.elems.length):=by omega
  all_goals
   go_enter func69,ntmps69;go_wp2;go_ret;exact⟨aQ HQ.out.symm,B0⟩
 have HSZN:=G (fun h=>hsz (HSZ.out.1 h));have z1:¬x.codes.length<1:=by omega
 have z2:¬8<x.codes.length:=by omega
 have z3:¬16<x.elems.length:=by omega
 clear hsz HSZ;go_enter func69,ntmps69;go_wp2;have s0:(w.alloc (.cells #[H C x.codes.length c,H E x.elems.length d] 75)).heap.size=w.heap.size+1:=by simp
 have k1:(w.alloc (.cells #[H C x.codes.length c,H E x.elems.length d] 75)).cell? ⟨w.heap.size,1,N⟩=Z (H E x.elems.length d):=by simp
 obtain⟨W0,hW0⟩:∃W0,w.alloc (.cells #[H C x.codes.length c,H E x.elems.length d] 75)=W0:=⟨_,rfl⟩;rw[hW0]at B0 s0 k1|-;clear hW0;have HC0:=G (HC.out.below B0);have HE0:=G (HE.out.below B0);have K:=G k1;have hx0:w.heap.size<W0.heap.size:=by omega
 clear HC HE k1 s0;go_loop [6,31] (fun _ u=>∃i:Nat,i<=x.codes.length/\u=I J i/\(∀t,(ht:t<x.codes.length)->t<i->inR 0 1114111 x.codes[t]=true)) (fun _ u=>x.codes.length-(intOf u).toNat)
 case atStart=>exact⟨0,Nat.zero_le _,rfl,fun t _ h=>by omega⟩
 obtain⟨i,hi,rfl,g1⟩:=hrel;have G1:=G g1;clear g1;by_cases hlt:i<x.codes.length
 ·obtain⟨b1,o1,rfl,hcell⟩:=HC0.out.at hlt
  have c1:=hcell i hlt;have HB:=G (fun h=>II (base:=base) HSZN.out hlt h);have HN:=G (fun h=>eK (P:=fun c=>inR 0 1114111 c=true) hlt G1.out h);clear hcell;generalize x.codes[i]=cd at *;go_wp2_with fail;refine(gM cd _).mono ?_;rintro e w1 ⟨rfl,rfl⟩;cases hv:inR 0 1114111 cd
  ·have HQ:=G (HB.out hv)
   go_wp2_with fail;go_ret;exact⟨aQ HQ.out.symm,B0⟩
  have HQ:=G (HN.out hv);go_wp2_with fail;go_round
  case rel=>exact⟨i+1,by omega,by go_num,HQ.out⟩
  simp[intOf];omega
 have G1':=G (fun t(ht:t<x.codes.length)=>G1.out t ht (by omega));clear G1;have f1:=K.out;go_wp2;clear f1;go_loopw [8,9,42] (fun _ _ u wr=>∃i:Nat,i<=x.elems.length/\u=I J i/\(∀t,(ht:t<x.elems.length)->t<i->eG x.elems[t]=0)/\By W0 wr) (fun _ _ u _=>x.elems.length-(intOf u).toNat)
 case atStart=>exact⟨0,Nat.zero_le _,rfl,fun t _ h=>by omega,Below.refl _ _⟩
 obtain⟨i,hi,rfl,g2,hb⟩:=hrel;have G2:=G g2;clear g2;by_cases hlt:i<x.elems.length
 ·obtain⟨b1,o1,rfl,hbl,hcell⟩:=(HE0.out.below hb).at hlt
  obtain⟨c1,c2,c3,c4⟩:=hcell i hlt;have HB:=G (fun h=>IK (base:=base) HSZN.out G1'.out hlt G2.out h);have HN:=G (fun h=>eK (P:=fun e=>eG e=0) hlt G2.out h);have CE:=G (fun W=>ID x.elems[i] W);clear hcell;generalize eG x.elems[i]=ev at *;generalize x.elems[i].p=p at *;generalize x.elems[i].s=s at *;generalize x.elems[i].t=t at *;generalize x.elems[i].v=v at *;go_wp2_with fail;refine(CE.out _).mono ?_;rintro e w1 ⟨rfl,hb1⟩;have hb2:=(hb.alloc hb.size (.cells #[I J p,I J s,I J t,.bool v] 77)).trans (hb1.mono (by have:=hb.size;simp;omega));clear hb1 c1 c2 c3 c4;by_cases hz:ev=0
  ·have q1:(ev !=0)=false:=by simpa using hz
   have HQ:=G (HN.out hz);clear hz HB HN;go_wp2_with fail;go_roundw
   case rel=>exact⟨i+1,by omega,by go_num,HQ.out,hb2⟩
   simp[intOf];omega
  have q1:(ev !=0)=true:=by simpa using hz
  have HQ:=G (HB.out hz);clear hz HB HN;go_wp2_with fail;go_ret;exact⟨aQ HQ.out.symm,B0.trans (hb2.mono B0.size)⟩
 have G2':=G (fun t(ht:t<x.elems.length)=>G2.out t ht (by omega));clear G2;have f1:=(hb.cell (p:=⟨w.heap.size,1,N⟩) hx0).trans K.out;go_wp2;clear f1;go_loopw [11,55] (fun _ u wr=>∃i:Nat,i<=x.elems.length/\u=I J i/\(∀t,(ht:t<x.elems.length)->t<i->¬base<=x.elems[t].p)/\By W0 wr) (fun _ u _=>x.elems.length-(intOf u).toNat)
 case atStart=>exact⟨0,Nat.zero_le _,rfl,fun t _ h=>by omega,hb⟩
 obtain⟨i,hi,rfl,g3,hb⟩:=hrel;have G3:=G g3;clear g3;by_cases hlt:i<x.elems.length
 ·obtain⟨b1,o1,rfl,hbl,hcell⟩:=(HE0.out.below hb).at hlt
  obtain⟨c1,c2,c3,c4⟩:=hcell i hlt;have HB:=G (fun h=>IQ (base:=base) HSZN.out G1'.out G2'.out hlt h);have HN:=G (fun h=>eK (P:=fun e=>¬base<=e.p) hlt G3.out h);clear hcell;generalize x.elems[i].p=p at *;generalize x.elems[i].s=s at *;generalize x.elems[i].t=t at *;generalize x.elems[i].v=v at *;by_cases hz:base<=p
  ·have HQ:=G (HB.out hz)
   clear HB HN;go_wp2;go_ret;exact⟨aQ HQ.out.symm,B0.trans ((hb.alloc hb.size _).mono B0.size)⟩
  have HQ:=G (HN.out hz);clear HB HN;go_wp2;go_roundw
  case rel=>exact⟨i+1,by omega,by go_num,HQ.out,hb.alloc hb.size _⟩
  simp[intOf];omega
 have HQ:=G (IG (base:=base) HSZN.out G1'.out G2'.out (fun t ht=>G3.out t ht (by omega)));go_wp2;go_ret;exact⟨aQ HQ.out.symm,B0.trans (hb.mono B0.size)⟩
end
section
open Go.RowKit
theorem pR(A B:Oa)(n m c d:Nat)(xs ys:Li)(w:Wv)(hA:aB w A xs)(hB:aB w B ys)(hn:xs.length=n)(hm:ys.length=m)
  (hn':n<=9223372036854775807) (hm':m<=9223372036854775807) :
  Calls prog 26 #[H A n c,H B m d] w fun e w'=>e=.returned (I J (aA xs ys))/\Qt w w':=by
 subst hn hm;go_enter func26,ntmps26;go_wp2;go_loopw [5] (fun i wr=>∃k:Nat,k<=xs.length/\k<=ys.length/\i=I J k/\Qt w wr/\aA xs ys=aA (xs.drop k) (ys.drop k)) (fun i _=>xs.length-(intOf i).toNat)
 case atStart=>exact⟨0,Nat.zero_le _,Nat.zero_le _,rfl,Qt.refl _,rfl⟩
 obtain⟨k,hk1,hk2,rfl,⟨q,rfl⟩,hcmp⟩:=hrel;have HC:=G hcmp;clear hcmp;by_cases h1:k<xs.length
 ·by_cases h2:k<ys.length
  ·obtain⟨b,o,rfl,hc⟩:=hA.at h1
   obtain⟨b',o',rfl,hc'⟩:=hB.at h2;have hx:=hc k h1;have hy:=hc' k h2;have HS:=G (qU xs ys k h1 h2);clear hc hc';generalize xs[k]=x at *;generalize ys[k]=y at *;by_cases hxy:x<y
   ·go_wp2
    go_quiet(fail);go_wp2;go_ret;exact⟨aQ (Eq.symm (by rw[HC.out,HS.out,if_pos hxy])),by repeat(first|exact Qt.refl _|refine Qt.drewN ?_ _)⟩
   by_cases hyx:y<x
   ·go_wp2
    go_quiet(fail);go_wp2;go_quiet(fail);go_wp2;go_ret;exact⟨aQ (Eq.symm (by rw[HC.out,HS.out,if_neg (show¬x<y by omega),if_pos hyx])),by repeat(first|exact Qt.refl _|refine Qt.drewN ?_ _)⟩
   go_wp2;go_quiet(fail);go_wp2;go_quiet(fail);go_wp2;go_roundw
   case rel=>exact⟨k+1,by omega,by omega,by go_num,by repeat(first|exact Qt.refl _|refine Qt.drewN ?_ _),by rw[HC.out,HS.out,if_neg (show¬x<y by omega),if_neg (show¬y<x by omega)]⟩
   simp[intOf];omega
  have HE:=G (qV xs ys k (by omega) hk1 hk2);have hl:ys.length<xs.length:=by omega
  go_wp2;go_ret;exact⟨aQ (Eq.symm (by rw[HC.out,HE.out,if_neg (by omega),if_pos hl])),by repeat(first|exact Qt.refl _|refine Qt.drewN ?_ _)⟩
 have HE:=G (qV xs ys k (by omega) hk1 hk2);by_cases h2:k<ys.length
 ·go_wp2
  go_ret;exact⟨aQ (Eq.symm (by rw[HC.out,HE.out,if_pos (by omega)])),by repeat(first|exact Qt.refl _|refine Qt.drewN ?_ _)⟩
 go_wp2;go_ret;exact⟨aQ (Eq.symm (by rw[HC.out,HE.out,if_neg (by omega),if_neg (by omega)])),by repeat(first|exact Qt.refl _|refine Qt.drewN ?_ _)⟩
end
section
open Go.RowKit Go.Maps Go.WideMaps
def iN(es:List Ent):Nat->Option Ent
 |0=>N
 |j+1=>es[j]?
def fH(base:Int)(es:List Ent)(i:Nat):Int:=
 match es[i]? with
 |none=>0
 |some x=>if bJ base x≠0 then bJ base x else match iN es i with
  |none=>0
  |some y=>if 0<=aA y.codes x.codes then 4 else 0
theorem IU(base:Int)(es:List Ent)(i:Nat)(hi:i<es.length):
  dR base (es.drop i) (iN es i)=if fH base es i≠0 then fH base es i else dR base (es.drop (i+1)) (iN es (i+1)):=by
 rw[List.drop_eq_getElem_cons hi];unfold fH;rw[List.getElem?_eq_getElem hi];have hp:iN es (i+1)=Z es[i]:=List.getElem?_eq_getElem hi;rw[hp];simp only[dR];by_cases h1:bJ base es[i]=0
 ·simp only[h1,ne_eq,not_true_eq_false,if_false]
  cases iN es i with
  |none=>simp
  |some y=>
   simp only;by_cases h2:0<=aA y.codes es[i].codes
   ·simp[h2]
   simp[h2]
 simp[h1]
theorem IR(base:Int)(es:List Ent)(i:Nat)(hi:es.length<=i):dR base (es.drop i) (iN es i)=0:=by
 rw[List.drop_eq_nil_of_le hi];rfl
section
variable {base:Int}{es:List Ent}{i:Nat}
theorem IN(hi:i<es.length)(h:bJ base es[i]≠0):fH base es i=bJ base es[i]:=by
 unfold fH;rw[List.getElem?_eq_getElem hi];simp[h]
theorem IM(hi:0<es.length)(h:bJ base es[0]=0):fH base es 0=0:=by
 unfold fH;rw[List.getElem?_eq_getElem hi];simp[h,iN]
theorem IOq(hi:i+1<es.length)(h:bJ base es[i+1]=0)(h4:0<=aA es[i].codes es[i+1].codes):fH base es (i+1)=4:=by
 unfold fH;rw[List.getElem?_eq_getElem hi];simp[h,iN,List.getElem?_eq_getElem (show i<es.length by omega),h4]
theorem IP(hi:i+1<es.length)(h:bJ base es[i+1]=0)(h4:¬0<=aA es[i].codes es[i+1].codes):fH base es (i+1)=0:=by
 unfold fH;rw[List.getElem?_eq_getElem hi];simp[h,iN,List.getElem?_eq_getElem (show i<es.length by omega),h4]
end
structure aZ(c:Col):Prop where
 e:∀i,(hi:i<c.ents.length)->c.ents[i].codes.length<=1048576/\c.ents[i].elems.length<=1048576
 n:c.ents.length<=1048576
 m:c.grps.length<=1048576
section
variable {c:Col}
theorem GK(h:c.base<1\/65502<c.base\/inR 1 65535 c.second=false\/inR 1 65535 c.third=false):aH c=1:=by unfold aH;rw[if_pos h]
theorem GN(h:¬(c.base<1\/65502<c.base\/inR 1 65535 c.second=false\/inR 1 65535 c.third=false))(hg:cF c.base c.grps≠0):aH c=cF c.base c.grps:=by
 unfold aH;rw[if_neg h,if_pos hg]
theorem GM(h:¬(c.base<1\/65502<c.base\/inR 1 65535 c.second=false\/inR 1 65535 c.third=false))(hg:cF c.base c.grps=0):aH c=dR c.base c.ents N:=by
 unfold aH;rw[if_neg h,if_neg (by simpa using hg)]
end
theorem oH(A:Oa)(n a:Nat)(B:Oa)(m b:Nat)(c:Col)(w:Wv)(h:aY w A n B m c)(hz:aZ c):
  Calls prog 23 #[aS A n a B m b c] w (bU (aH c) w):=by
 have B0:By w (w.alloc (.cells #[H A n a,H B m b,I J c.base,I J c.second,I J c.third] 32)):=ba _ _;have H1:=G (GK (c:=c));have HG:=G (GN (c:=c));have HE:=G (GM (c:=c));have CG:=G (fun W(hb:By w W)(h65:c.base<=65502)=>FI A n a B m b c W (h.below hb) h65 (by rw[<-h.hm];exact hz.m));obtain⟨es,gs,base,second,third⟩:=c;dsimp only at *;unfold aS at *;dsimp only at *;have CI:=G MJ;have HEN:=G h.ents;have hnn:=h.hn;have HSZ:=G hz;dsimp only at hnn;subst hnn;clear h hz;by_cases q1:base<1
 ·have HQ:=G (H1.out (.inl q1))
  go_enter func23,ntmps23;go_wp2_with fail;go_ret;exact⟨aQ HQ.out.symm,B0⟩
 by_cases q2:65502<base
 ·have HQ:=G (H1.out (.inr (.inl q2)))
  go_enter func23,ntmps23;go_wp2_with fail;go_ret;exact⟨aQ HQ.out.symm,B0⟩
 cases q3:inR 1 65535 second
 ·have HQ:=G (H1.out (.inr (.inr (.inl q3))))
  go_enter func23,ntmps23;go_wp2_with fail;refine(CI.out second _).mono ?_;rw[q3];rintro e w' ⟨rfl,rfl⟩;go_wp2_with fail;go_ret;exact⟨aQ HQ.out.symm,B0⟩
 cases q4:inR 1 65535 third
 ·have HQ:=G (H1.out (.inr (.inr (.inr q4))))
  go_enter func23,ntmps23;go_wp2_with fail;refine(CI.out second _).mono ?_;rw[q3];rintro e w' ⟨rfl,rfl⟩;go_wp2_with fail;refine(CI.out third _).mono ?_;rw[q4];rintro e w' ⟨rfl,rfl⟩;go_wp2_with fail;go_ret;exact⟨aQ HQ.out.symm,B0⟩
 have hno:¬(base<1\/65502<base\/inR 1 65535 second=false\/inR 1 65535 third=false):=by rw[q3,q4];simp;omega
 have HG':=G (HG.out hno);have HE':=G (HE.out hno);clear HG HE H1 hno;go_enter func23,ntmps23;go_wp2_with fail;refine(CI.out second _).mono ?_;rw[q3];rintro e w' ⟨rfl,rfl⟩;go_wp2_with fail;refine(CI.out third _).mono ?_;rw[q4];rintro e w' ⟨rfl,rfl⟩;go_wp2_with fail;have s0:(w.alloc (.cells #[H A es.length a,H B m b,I J base,I J second,I J third] 32)).heap.size=w.heap.size+1:=by simp
 have k0:(w.alloc (.cells #[H A es.length a,H B m b,I J base,I J second,I J third] 32)).cell? ⟨w.heap.size,0,N⟩=Z (H A es.length a):=by simp
 have k2:(w.alloc (.cells #[H A es.length a,H B m b,I J base,I J second,I J third] 32)).cell? ⟨w.heap.size,2,N⟩=Z (I J base):=by simp
 obtain⟨W0,hW0⟩:∃W0,w.alloc (.cells #[H A es.length a,H B m b,I J base,I J second,I J third] 32)=W0:=⟨_,rfl⟩;rw[hW0]at B0 s0 k0 k2|-;clear hW0;have HEN0:=G (HEN.out.below B0);have K:=G (And.intro k0 k2);have hx0:w.heap.size<W0.heap.size:=by omega
 clear HEN k0 k2 s0 q3 q4 CI;refine(CG.out W0 B0 (by omega)).mono ?_;rintro e W1 ⟨rfl,hb1⟩;clear CG;by_cases hgz:cF base gs=0
 ·have g1:(cF base gs !=0)=false:=by simpa using hgz
  have HQ:=G (HE'.out hgz);clear hgz HG' HE';generalize cF base gs=ge at *;generalize aH ⟨es,gs,base,second,third⟩=R at *;have f0:=(hb1.cell (p:=⟨w.heap.size,0,N⟩) hx0).trans K.out.1;go_wp2_with fail;clear f0;go_loopw [4,5,6,35] (fun _ _ _ u wr=>∃i:Nat,i<=es.length/\u=I J i/\dR base es N=dR base (es.drop i) (iN es i)/\By W0 wr) (fun _ _ _ u _=>es.length-(intOf u).toNat)
  case atStart=>exact⟨0,Nat.zero_le _,rfl,rfl,hb1⟩
  obtain⟨i,hi,rfl,hen,hb⟩:=hrel;have HEE:=G hen;clear hen hb1;by_cases hlt:i<es.length
  ·obtain⟨b1,o1,rfl,hbl,hcell⟩:=(HEN0.out.below hb).at hlt
   obtain⟨C,cc,E,d,c1,c2,hC,hE⟩:=hcell i hlt;obtain⟨z1,z2⟩:=HSZ.out.e i hlt;dsimp only at z1 z2;have f2:=(hb.cell (p:=⟨w.heap.size,2,N⟩) hx0).trans K.out.2;have f0:=(hb.cell (p:=⟨w.heap.size,0,N⟩) hx0).trans K.out.1;have hx1:w.heap.size<wr.heap.size:=by have:=hb.size;omega
   have hnz:es.length<=1048576:=HSZ.out.n;have ST:=G (IU base es i hlt);have E1:=G (fun h=>IN (base:=base) hlt h)
   have HPV:=U (0<i->∃D dd,wr.cell? ⟨b1,o1+(i-1)*2,N⟩=Z (H D (es[i-1]'(by omega)).codes.length dd)/\aB wr D (es[i-1]'(by omega)).codes/\(es[i-1]'(by omega)).codes.length<=1048576/\(bJ base es[i]=0->(0<=aA (es[i-1]'(by omega)).codes es[i].codes->fH base es i=4)/\(¬0<=aA (es[i-1]'(by omega)).codes es[i].codes->fH base es i=0))) (fun hp=>by
    obtain⟨j,rfl⟩:∃j,i=j+1:=⟨i-1,by omega⟩
    obtain⟨D,dd,_,_,e1,_,e3,_⟩:=hcell j (by omega)
    exact⟨D,dd,e1,e3,(HSZ.out.e j (show j<es.length by omega)).1,fun hz=>⟨fun h=>IOq hlt hz h,fun h=>IP hlt hz h⟩⟩)
   have HP0:=G (show¬0<i->bJ base es[i]=0->fH base es i=0 from fun hp hz=>by
    obtain rfl:i=0:=by omega
    exact IM hlt hz)
   have CE:=G (fun W(hb':By wr W)=>FH C cc E d es[i] base W (hC.below hb') (hE.below hb') z1 z2);clear hcell hE;generalize bJ base es[i]=ev at *;generalize es[i].elems=els at *;generalize es[i].codes=cds at *;generalize fH base es i=ei at *;have hal:By wr (wr.alloc (.cells #[H C cds.length cc,H E els.length d] 75)):=ba _ _;have m0:(wr.alloc (.cells #[H C cds.length cc,H E els.length d] 75)).cell? ⟨wr.heap.size,0,N⟩=Z (H C cds.length cc):=by simp
   have HAL:=G (And.intro hal m0);clear hal m0;go_wp2_with fail;refine(CE.out _ HAL.out.1).mono ?_;rintro e w3 ⟨rfl,hb3⟩;have hb4:=HAL.out.1.trans (hb3.mono (by simp));have hb5:=hb.trans (hb4.mono hb.size);have m1:=(hb3.cell (p:=⟨wr.heap.size,0,N⟩) (by simp)).trans HAL.out.2;have f0':=(hb5.cell (p:=⟨w.heap.size,0,N⟩) hx0).trans K.out.1;clear HAL hb3 CE c1 c2 f0 f2;by_cases hev:ev=0
   ·have e1:(ev !=0)=false:=by simpa using hev
    by_cases hp:0<i
    ·obtain⟨D,dd,d1,hD,z3,hcmp⟩:=HPV.out hp
     have HCMP:=G (hcmp hev);have d1':=(hb4.cell (p:=⟨b1,o1+(i-1)*2,N⟩) (World.block_lt_of_cell? wr _ d1)).trans d1;have CC:=G (fun n=>vA D C _ _ dd cc _ cds (w3.drewN n) (Sl.drewN (hD.below hb4) n) (Sl.drewN (hC.below hb4) n) rfl rfl (by omega) (by omega));clear hcmp hev E1 HPV HP0 hD d1;generalize (es[i-1]'(by omega)).codes=pcs at *;generalize aA pcs cds=cv at *;have i1:(0:Int)<=(i:Int)-1:=by omega
     have i2:(i:Int)-1<(es.length:Int):=by omega
     have i3:((i:Int)-1).toNat=i-1:=by omega
     have w1:IntKind.i64.wrap ((i:Int)-1)=(i:Int)-1:=IntWalk.i64_in _ (by omega);by_cases hcv:0<=cv
     ·have q9:decide (0<=cv)=true:=by simpa using hcv
      have HV:=G (HCMP.out.1 (by omega));clear hcv HCMP;go_wp2_with fail;go_quiet((go_at_call 70;exact yK (CC.out _)));clear i3 w1;go_wp2_with fail;go_ret;exact⟨aQ (by rw[HQ.out,HEE.out,ST.out,HV.out];rfl),B0.trans ((jU hb5 _).mono B0.size)⟩
     have q9:decide (0<=cv)=false:=by simpa using hcv
     have HV:=G (HCMP.out.2 (by omega));clear hcv HCMP;go_wp2_with fail;go_quiet((go_at_call 70;exact yK (CC.out _)));clear i3 w1;go_wp2_with fail;go_roundw
     case rel=>exact⟨i+1,by omega,by go_num,by rw[HEE.out,ST.out,HV.out];rfl,jU hb5 _⟩
     simp[intOf];omega
    have hp0:decide ((0:Int)<(i:Int))=false:=by simp;omega
    have HV:=G (HP0.out hp hev);clear hev E1 HPV HP0;go_wp2_with fail;go_quiet(fail);go_wp2_with fail;go_roundw
    case rel=>exact⟨i+1,by omega,by go_num,by rw[HEE.out,ST.out,HV.out];rfl,jU hb5 _⟩
    simp[intOf];omega
   have e1:(ev !=0)=true:=by simpa using hev
   have HV:=G (E1.out hev);have HZ:=G hev;clear hev E1 HPV HP0;go_wp2_with fail;go_ret;exact⟨aQ (by rw[HQ.out,HEE.out,ST.out,HV.out,if_pos HZ.out]),B0.trans (hb5.mono B0.size)⟩
  have HF:=G (IR base es i (by omega));go_wp2;go_ret;exact⟨aQ (by rw[HQ.out,HEE.out,HF.out]),B0.trans (hb.mono B0.size)⟩
 have g1:(cF base gs !=0)=true:=by simpa using hgz
 have HQ:=G (HG'.out hgz);clear hgz HG' HE';generalize cF base gs=ge at *;go_wp2_with fail;go_ret;exact⟨aQ HQ.out.symm,B0.trans (hb1.mono B0.size)⟩
end
section
open Go.ChangeShapes Go.WideShapes Go.ChangeAt Go.RowKit
section
variable {H:Type}{enc:TypeId×Value->H}{w:Wv}{base:Nat}{spare:Nat->Bool}{held:Bool}{fuel:Nat}{cs:Lv}{x:DataW H×List MemPlace}
theorem ci:prog.cellsOf 3=1:=by kernel_rfl
theorem cs':prog.cellsOf 9=1:=by kernel_rfl
theorem cb':prog.cellsOf 4=1:=by kernel_rfl
theorem cI:prog.cellsOf 33=1:=by kernel_rfl
theorem cE:prog.cellsOf 54=1:=by kernel_rfl
theorem cN:prog.cellsOf 29=1:=by kernel_rfl
theorem cG:prog.cellsOf 30=1:=by kernel_rfl
theorem QA(h:DataW.trod enc prog w base spare held fuel 33 cs=Z x):
  ∃A len cap,∃l:Li,cs=[.slice A len cap]/\l.length=len/\len<=cap/\cap<=9223372036854775807/\aB w A l:=by
 obtain⟨A,len,cap,l,h1,h2,h3,h4,h5,_⟩:=iL (α:=Int) (fun z=>[I J z]) 1 (by omega) (fun _=>rfl) (fun _=>True) underlying33 ci (fun fuel cs x hl hx=>by
  obtain⟨z,hz,_,_⟩:=DataW.trod_int underlying3 hx
  exact⟨z,hz,trivial⟩) h
 refine⟨A,len,cap,l,h1,h2,h3,h4,?_⟩;unfold dN aE at h5;unfold aB;rw[show l.map (Value.int .i64)=l.flatMap (fun z=>[I J z]) by clear h2 h5;induction l<;>simp_all];exact h5
instance:Inhabited Grp:=⟨⟨.empty,0,0⟩⟩
instance:Inhabited Elt:=⟨⟨0,0,0,false⟩⟩
instance:Inhabited Ent:=⟨⟨[],[]⟩⟩
theorem P_(h:DataW.trod enc prog w base spare held fuel 30 cs=Z x):
  ∃A len cap,∃l:List Grp,cs=[.slice A len cap]/\l.length=len/\len<=cap/\cap<=9223372036854775807/\iA w A l/\∀g∈l,g.name.size<=9223372036854775807:=by
 refine iL (α:=Grp) Grp.cells 3 (by omega) (fun _=>rfl) (fun g=>g.name.size<=9223372036854775807) underlying30 (by kernel_rfl) (fun fuel cs x hl hx=>?_) h;obtain⟨xs,k,hk,hxy,_,hxl,hfs⟩:=DataW.trod_struct underlying98 hx;match xs,hxl,cs,hl with
 | [y0,y1,y2],_,[v0,v1,v2],_=>
  have g0:=hfs 0 _ rfl;have g1:=hfs 1 _ rfl;have g2:=hfs 2 _ rfl;simp[ci,cs']at g0 g1 g2;obtain⟨z0,e0,_,hs⟩:=DataW.trod_string underlying9 g0;obtain⟨z1,e1,_,_⟩:=DataW.trod_int underlying3 g1;obtain⟨z2,e2,_,_⟩:=DataW.trod_int underlying3 g2;simp at e0 e1 e2;subst e0;subst e1;subst e2;exact⟨⟨z0,z1,z2⟩,rfl,by unfold maxLen at hs;show z0.size<=_;omega⟩
theorem PY(h:DataW.trod enc prog w base spare held fuel 54 cs=Z x):
  ∃A len cap,∃l:List Elt,cs=[.slice A len cap]/\l.length=len/\len<=cap/\cap<=9223372036854775807/\cB w A l/\∀_∈l,True:=by
 refine iL (α:=Elt) Elt.cells 4 (by omega) (fun _=>rfl) (fun _=>True) underlying54 (by kernel_rfl) (fun fuel cs x hl hx=>?_) h;obtain⟨xs,k,hk,hxy,_,hxl,hfs⟩:=DataW.trod_struct underlying77 hx;match xs,hxl,cs,hl with
 | [y0,y1,y2,y3],_,[v0,v1,v2,v3],_=>
  have g0:=hfs 0 _ rfl;have g1:=hfs 1 _ rfl;have g2:=hfs 2 _ rfl;have g3:=hfs 3 _ rfl;simp[ci,cb']at g0 g1 g2 g3;obtain⟨z0,e0,_,_⟩:=DataW.trod_int underlying3 g0;obtain⟨z1,e1,_,_⟩:=DataW.trod_int underlying3 g1;obtain⟨z2,e2,_,_⟩:=DataW.trod_int underlying3 g2;obtain⟨z3,e3,_⟩:=DataW.trod_bool underlying4 g3;simp at e0 e1 e2 e3;subst e0;subst e1;subst e2;subst e3;exact⟨⟨z0,z1,z2,z3⟩,rfl,trivial⟩
theorem PZ(h:DataW.trod enc prog w base spare held fuel 29 cs=Z x):
  ∃A len cap,∃l:List Ent,cs=[.slice A len cap]/\l.length=len/\len<=cap/\cap<=9223372036854775807/\gB w A l:=by
 have:Inhabited (Value×Value):=⟨(.bool false,.bool false)⟩
 obtain⟨A,len,cap,vs,h1,h2,h3,h4,h5,h6⟩:=iL (α:=Value×Value) (fun v=>[v.1,v.2]) 2 (by omega) (fun _=>rfl) (fun v=>∃x,eR w v x) underlying29 (by kernel_rfl) (fun fuel cs x hl hx=>by
  obtain⟨xs,k,hk,hxy,_,hxl,hfs⟩:=DataW.trod_struct underlying75 hx
  match xs,hxl,cs,hl with
  | [y0,y1],_,[v0,v1],_=>
   have g0:=hfs 0 _ rfl
   have g1:=hfs 1 _ rfl
   simp[cI,cE]at g0 g1
   obtain⟨A0,n0,c0,l0,e0,f0,_,_,i0⟩:=QA g0
   obtain⟨A1,n1,c1,l1,e1,f1,_,_,i1,_⟩:=PY g1
   simp at e0 e1
   subst e0;subst e1;subst f0;subst f1
   exact⟨(.slice A0 l0.length c0,.slice A1 l1.length c1),rfl,⟨l0,l1⟩,⟨A0,c0,A1,c1,rfl,i0,i1⟩⟩) h
 have each:∀i,i<vs.length->∃y:Ent,∀hv:i<vs.length,eR w vs[i] y:=fun i hi=>by
  obtain⟨y,hy⟩:=h6 _ (List.getElem_mem hi);exact⟨y,fun _=>hy⟩
 obtain⟨V,hV⟩:=Deep.choose_lt each;refine⟨A,len,cap,(List.range vs.length).map V,h1,by simpa using h2,h3,h4,vs,by simp,h5,fun i hi hv=>?_⟩;have:=hV i hv hv;simpa using this
end
end
section
open Go.RowKit
structure Opt where
 st:Int
 va:Int
 bk:Bool
 idn:Bool
 deriving DecidableEq
def jJ(o:Opt):Bool:=decide (1<=o.st)&&decide (o.st<=4)&&(decide (1<=o.va)&&decide (o.va<=3))
def bY(o:Opt):Opt:=if jJ o=true then o else⟨3,1,false,false⟩
theorem xW(o:Opt):jJ (bY o)=true:=by
 unfold bY;split
 ·next h=>exact h
 rfl
theorem xV(o:Opt):(1<=(bY o).st/\(bY o).st<=4)/\(1<=(bY o).va/\(bY o).va<=3):=by
 have h:=xW o;unfold jJ at h;simp at h;omega
def aF(a:Bool)(e:Elt):Bool:=if e.v=true\/e.p≠0 then e.v else a
def aM(e:Elt):Bool:=decide (e.p=0)&&decide (e.s=0)&&decide (e.t=0)
def aJ(e:Elt)(k:Nat):Int:=if k=0 then e.p else if k=1 then e.s else if k=2 then e.t else 0
def wtE(va:Int)(a:Bool)(e:Elt)(k:Nat):Int:=
 if va=1 then(if k<3 then aJ e k else if aM e=true then 0 else 65535)
 else if a=true then(if k=3/\va=3/\e.v=true then e.p else 0)
 else(if k<3 then aJ e k else if va=3/\aM e=false then 65535 else 0)
def lN(a:Bool)(l:List Elt):Bool:=l.foldl aF a
def gH(va:Int):Bool->List Elt->List (Nat->Int)
 |_,[]=>[]
 |a,e::l=>wtE va (aF a e) e::gH va (aF a e) l
theorem pP(va:Int):∀(a:Bool)(l:List Elt),(gH va a l).length=l.length
 |_,[]=>rfl
 |a,e::l=>by unfold gH;rw[List.length_cons,pP va _ l,List.length_cons]
theorem AK(va:Int)(e:Elt):∀(a:Bool)(l:List Elt),gH va a (l++[e])=gH va a l++[wtE va (aF (lN a l) e) e]
 |_,[]=>rfl
 |a,x::l=>by
  rw[List.cons_append];unfold gH;rw[AK va e _ l];rfl
theorem XR(va:Int){l:List Elt}{i:Nat}(hi:i<l.length):gH va false (l.take (i+1))=gH va false (l.take i)++[wtE va (aF (lN false (l.take i)) l[i]) l[i]]:=by
 rw[List.take_succ_eq_append_getElem hi,AK]
theorem CN{l:List Elt}{i:Nat}(hi:i<l.length):lN false (l.take (i+1))=aF (lN false (l.take i)) l[i]:=by
 rw[List.take_succ_eq_append_getElem hi];unfold lN;rw[List.foldl_append];rfl
def jN(ws:List (Nat->Int))(k:Nat):Li:=(ws.map (fun w=>w k)).filter (fun x=>decide (x≠0))
theorem TG(ws:List (Nat->Int))(w:Nat->Int)(k:Nat):jN (ws++[w]) k=jN ws k++if w k=0 then []else [w k]:=by
 unfold jN;rw[List.map_append,List.filter_append];congr 1;by_cases h:w k=0
 ·simp[h]
 simp[h]
theorem sZ(ws:List (Nat->Int))(k:Nat):(jN ws k).length<=ws.length:=by
 unfold jN;have:=List.length_filter_le (fun x=>decide (x≠0)) (ws.map (fun w=>w k));rw[List.length_map]at this;exact this
def kG(o:Opt)(es:List Elt)(k:Nat):Li:=if k=1/\o.bk=true then(jN (gH o.va false es) k).reverse else jN (gH o.va false es) k
def fB(o:Opt)(es:List Elt):List (Li):=(List.range o.st.toNat).map (kG o es)
theorem AG(o:Opt)(es:List Elt):(fB o es).length=o.st.toNat:=by unfold fB;simp
def cY:List (Li)->Li
 | []=>[]
 | [x]=>x
 |x::y::l=>x++0::cY (y::l)
theorem wM(y:Li):∀l:List (Li),cY (l++[y])=cY l++if l=[]then y else 0::y
 | []=>rfl
 | [x]=>rfl
 |x::z::l=>by
  have h:=wM y (z::l);rw[if_neg (by simp)]at h|-;show x++0::cY ((z::l)++[y])=(x++0::cY (z::l))++0::y
  rw[h];simp
theorem MK{l:List (Li)}{i:Nat}(hi:i<l.length):cY (l.take (i+1))=(cY (l.take i)++if i=0 then []else [0])++l[i]:=by
 rw[List.take_succ_eq_append_getElem hi,wM];by_cases h:i=0
 ·subst h;simp
 ·rw[if_neg h,if_neg (by
   intro e
   have:=congrArg List.length e
   rw[List.length_take,List.length_nil]at this
   omega)]
  simp
def dL(d:Li):Li:=(d.filter (fun c=>decide (0<=c)&&decide (c<=1114111))).map (·+1)
theorem LP(d:Li)(c:Int):dL (d++[c])=dL d++if 0<=c/\c<=1114111 then [c+1]else []:=by
 unfold dL;rw[List.filter_append,List.map_append];congr 1;by_cases h:0<=c/\c<=1114111
 ·simp[h]
 rw[if_neg h];have:(decide (0<=c)&&decide (c<=1114111))=false:=by
  rw[Bool.eq_false_iff];intro h2;simp at h2;exact h h2
 simp[List.filter,this]
def bO(o:Opt)(es:List Elt)(d:Li):Li:=cY (fB o es)++if o.idn=true then 0::dL d else []
end
namespace Tl
open Go.RowKit
structure Tlr where
 anc:Li
 cds:Li
 lvl:Int
 bef:Bool
def kndT(t:Tlr):Bool:=decide (0<=t.lvl)&&decide (t.lvl<=3)&&(decide (0<t.lvl)||!t.bef)
def rngT(zs:Li):Bool:=!zs.isEmpty&&zs.all (fun c=>decide (0<=c)&&decide (c<=1114111))
end Tl
namespace Tl
open Go.RowKit
def wt(k:Int)(e:Elt):Int:=if k=1 then e.p else if k=2 then e.s else e.t
def setW(k:Int)(e:Elt)(x:Int):Elt:=if k=1 then⟨x,e.s,e.t,e.v⟩else if k=2 then⟨e.p,x,e.t,e.v⟩else if k=3 then⟨e.p,e.s,x,e.v⟩else e
def mvd(l x:Int):Int:=if l<=x then x+1 else x
def rsE(k l:Int)(e:Elt):Elt:=setW k e (mvd l (wt k e))
def rsEnt(k l:Int)(x:Ent):Ent:=⟨x.codes,x.elems.map (rsE k l)⟩
def rsG(k w:Int)(g:Grp):Grp:=if k=1 then⟨g.name,mvd (w+1) g.lo,mvd w g.hi⟩else g
def roomC(k w l:Int)(c:Col):Col:=⟨c.ents.map (rsEnt k l),c.grps.map (rsG k w),if k=1 then mvd l c.base else c.base,if k=2 then mvd l c.second else c.second,if k=3 then mvd l c.third else c.third⟩
def putE(es:List Ent)(x:Ent):List Ent:=es.filter (fun y=>decide (aA y.codes x.codes<0))++x::es.filter (fun y=>decide (0<aA y.codes x.codes))
def lstK(k:Int)(es:List Elt):Nat->Nat
 |0=>0
 |n+1=>if wt k (es.getD n ⟨0,0,0,false⟩)≠0 then n+1 else lstK k es n
def lst(w:Int)(b:Bool):Int:=if b=true then w else w+1
def newE(k l:Int)(c:Col)(e:Elt):Elt:=if k=1 then⟨l,c.second,c.third,e.v⟩else if k=2 then⟨e.p,l,c.third,e.v⟩else⟨e.p,e.s,l,e.v⟩
def bigE(e:Elt):Bool:=decide (65535<e.p)||decide (65535<e.s)||decide (65535<e.t)
def overC(c:Col):Bool:=c.ents.any (fun x=>x.elems.any bigE)||(decide (65502<c.base)||decide (65535<c.second)||decide (65535<c.third))
def atE(k:Int)(es:List Elt):Elt:=es.getD (lstK k es es.length-1) ⟨0,0,0,false⟩
def atW(k:Int)(es:List Elt):Int:=wt k (atE k es)
def roomT(t:Tlr)(es:List Elt)(c:Col):Col:=roomC t.lvl (atW t.lvl es) (lst (atW t.lvl es) t.bef) c
def newL(t:Tlr)(es:List Elt)(c:Col):List Elt:=(es.take (lstK t.lvl es es.length-1)).map (rsE t.lvl (lst (atW t.lvl es) t.bef))++[newE t.lvl (lst (atW t.lvl es) t.bef) (roomT t es c) (atE t.lvl es)]
def col0:Col:=⟨[],[],0,0,0⟩
def stepB(d:Li)(kn:Bool)(es:List Elt)(c:Col)(t:Tlr):Int×Col:=
 if 8<d.length then(2,col0)
 else if kn=false\/(0<t.lvl/\lstK t.lvl es es.length=0)then(7,col0)
 else if t.lvl=0 then(if 16<es.length then(2,col0)else(0,{ c with ents:=putE c.ents ⟨d,es⟩ }))
 else if 16<lstK t.lvl es es.length then(2,col0)
 else if overC (roomT t es c)=true\/(newL t es c).any bigE=true then(13,col0)
 else(0,{ roomT t es c with ents:=putE (roomT t es c).ents ⟨d,newL t es c⟩ })
theorem mvd_nn{l x:Int}(h:0<=x):0<=mvd l x/\x<=mvd l x/\mvd l x<=x+1:=by unfold mvd;split<;>omega
theorem mvd_zero{l x:Int}(hl:1<=l):mvd l x=0 ↔ x=0\/(x=-1/\l<=-1):=by unfold mvd;split<;>omega
theorem mvd_lt{l x y:Int}:mvd l x<mvd l y ↔ x<y:=by unfold mvd;split<;>split<;>omega
theorem mvd_z{l:Int}(hl:1<=l):mvd l 0=0:=by unfold mvd;rw[if_neg (by omega)]
theorem mvd_pos{l x:Int}(h:1<=x):1<=mvd l x:=by unfold mvd;split<;>omega
theorem rsE_0{k l:Int}(h:¬(k=1\/k=2\/k=3))(e:Elt):rsE k l e=e:=by
 unfold rsE setW;rw[if_neg (fun g=>h (.inl g)),if_neg (fun g=>h (.inr (.inl g))),if_neg (fun g=>h (.inr (.inr g)))]
theorem rsE_p(k l:Int)(e:Elt):(rsE k l e).p=if k=1 then mvd l e.p else e.p:=by
 unfold rsE setW wt;by_cases h1:k=1
 ·simp[h1]
 by_cases h2:k=2
 ·simp[h2]
 by_cases h3:k=3
 ·simp[h3]
 simp[h1,h2,h3]
theorem rsE_s(k l:Int)(e:Elt):(rsE k l e).s=if k=2 then mvd l e.s else e.s:=by
 unfold rsE setW wt;by_cases h1:k=1
 ·simp[h1]
 by_cases h2:k=2
 ·simp[h2]
 by_cases h3:k=3
 ·simp[h3]
 simp[h1,h2,h3]
theorem rsE_t(k l:Int)(e:Elt):(rsE k l e).t=if k=3 then mvd l e.t else e.t:=by
 unfold rsE setW wt;by_cases h1:k=1
 ·simp[h1]
 by_cases h2:k=2
 ·simp[h2]
 by_cases h3:k=3
 ·simp[h3]
 simp[h1,h2,h3]
theorem rsE_v(k l:Int)(e:Elt):(rsE k l e).v=e.v:=by
 unfold rsE setW wt;by_cases h1:k=1
 ·simp[h1]
 by_cases h2:k=2
 ·simp[h2]
 by_cases h3:k=3
 ·simp[h3]
 simp[h1,h2,h3]
structure EOk(e:Elt):Prop where
 p0:0<=e.p
 p1:e.p<=65535
 s0:0<=e.s
 s1:e.s<=65535
 t0:0<=e.t
 t1:e.t<=65535
 ps:e.p≠0->e.s≠0
 st:e.s≠0->e.t≠0
 vp:e.v=true->e.p≠0
theorem eok_iff(e:Elt):eG e=0 ↔ EOk e:=by
 unfold eG;constructor
 ·intro h
  split at h
  ·cases h
  next h1=>
  split at h
  ·cases h
  next h2=>
  refine⟨by omega,by omega,by omega,by omega,by omega,by omega,fun g=>?_,fun g=>?_,fun g=>?_⟩
  ·intro e0;exact h2 (.inl ⟨g,.inl e0⟩)
  ·intro e0;exact h2 (.inr (.inl ⟨g,e0⟩))
  intro e0;exact h2 (.inr (.inr ⟨g,e0⟩))
 intro h;have:=h.p0;have:=h.p1;have:=h.s0;have:=h.s1;have:=h.t0;have:=h.t1;rw[if_neg (by omega),if_neg];rintro(⟨g,g1|g1⟩|⟨g,g1⟩|⟨g,g1⟩)
 ·exact h.ps g g1
 ·exact h.st (h.ps g) g1
 ·exact h.st g g1
 exact h.vp g g1
theorem bigE_false{e:Elt}(h:bigE e=false):e.p<=65535/\e.s<=65535/\e.t<=65535:=by
 unfold bigE at h;simp at h;omega
theorem rsE_ok{k l:Int}(hl:1<=l){e:Elt}(h:EOk e)(hb:bigE (rsE k l e)=false):EOk (rsE k l e):=by
 obtain⟨b1,b2,b3⟩:=bigE_false hb;have hp:=h.p0;have hs:=h.s0;have ht:=h.t0;have q1:(rsE k l e).p=0 ↔ e.p=0:=by rw[rsE_p];split;(rw[mvd_zero hl];omega);exact Iff.rfl
 have q2:(rsE k l e).s=0 ↔ e.s=0:=by rw[rsE_s];split;(rw[mvd_zero hl];omega);exact Iff.rfl
 have q3:(rsE k l e).t=0 ↔ e.t=0:=by rw[rsE_t];split;(rw[mvd_zero hl];omega);exact Iff.rfl
 refine⟨?_,b1,?_,b2,?_,b3,fun g=>?_,fun g=>?_,fun g=>?_⟩
 ·rw[rsE_p];split;exact(mvd_nn hp).1;exact hp
 ·rw[rsE_s];split;exact(mvd_nn hs).1;exact hs
 ·rw[rsE_t];split;exact(mvd_nn ht).1;exact ht
 ·rw[Ne,q2];exact h.ps (by rw[Ne,q1]at g;exact g)
 ·rw[Ne,q3];exact h.st (by rw[Ne,q2]at g;exact g)
 rw[rsE_v]at g;rw[Ne,q1];exact h.vp g
theorem lstK_le(k:Int)(es:List Elt):∀n,lstK k es n<=n
 |0=>Nat.le_refl _
 |n+1=>by unfold lstK;split;exact Nat.le_refl _;exact Nat.le_succ_of_le (lstK_le k es n)
theorem lstK_at{k:Int}{es:List Elt}:∀{n},0<lstK k es n->wt k (es.getD (lstK k es n-1) ⟨0,0,0,false⟩)≠0
 |0,h=>by simp[lstK]at h
 |n+1,h=>by
  unfold lstK at h|-;split
  ·next h1=>exact h1
  next h1=>rw[if_neg h1]at h;exact lstK_at h
theorem lstK_up{k:Int}{es:List Elt}:∀{n i},lstK k es n<=i->i<n->wt k (es.getD i ⟨0,0,0,false⟩)=0
 |0,i,_,h=>by omega
 |n+1,i,h,h2=>by
  unfold lstK at h;split at h
  ·omega
  next h1=>
  by_cases e:i=n
  ·subst e
   exact Classical.not_not.1 h1
  exact lstK_up h (by omega)
end Tl
section
open Go.RowKit
section
variable {P:Program}{ops:Array Oper}{Q:Exit->Act->Wv->Prop}{md:Region.Mode}{S:Wv->Prop}
theorem jT{i:Nat}{oi:Oper}{fuel:Nat}{listed:Array Bool}{a:Act}{w w':Wv}(d:Option Tmp)(hi:ops[i]?=Z oi)(hd:oi.dst=d)
  (hr:Region.ready md ops listed=[i]) (hw:Region.wanted oi (yielded ops a.tmps)=true) (he:(execOp a.eval oi).run P w=.ok .skip w') (hS:S w')
  (h:wpAnyH P md ops Q S fuel (listed.setIfInBounds i true) (a.put d undef) w'):wpAnyH P md ops Q S (fuel+1) listed a w:=by
 subst hd;refine oF hi hr hw (fun K hK=>?_);unfold Oper.wp;rw[he];simp only[Oper.upon];exact hK.out _ _ hS (fun _=>h)
end
section
variable {P:Program}{w:Wv}
theorem kP{ops:Array Oper}{rest:List Oper}{o:Oper}{a:Act}{Q:Exit->Act->Wv->Prop}(s x:Operand)(t e:TypeId)(z:Value)(size bytes:Nat)
  (hgd:o.guard=N) (ho:o.op=.call { callee:=.builtin .append,args:=#[s,x],argTypes:=#[t,t] }) (ht:P.underlying t=Z (.slice e))
  (hinfo:(P.info? e).map (fun i=>(i.zero,i.size,i.bytes))=Z (Z z,size,bytes)) (hzs:z.cells.size=size) (hsz:0<size) (hby:0<bytes)
  (hs:a.eval s=H N 0 0)
  {A':Oa} {m c':Nat} {news:Lv} (hx:a.eval x=H A' m c') (hr:Sl w A' news) (hl:news.length=m*size) (h1:∀u∈news,u.oneCell'=true)
  (hlim:m*bytes<=140737488355328)
  (h:∀B k w',w'.ownsRow w.heap.size e size (H B m k) m news->m<=k->By w w'->wpList P ops Q rest (a.put o.dst (H B m k)) w'):wpList P ops Q (o::rest) a w:=by
 refine cJ s x t e z size bytes hgd ho ht hinfo hzs hsz hby hs (World.ownsRow_nil w w.heap.size _ _) hx hr hl h1 (by rw[Nat.zero_add];exact hlim) (Nat.le_refl _) ?_;intro B k w' h2 h3 h4 _ _;rw[Nat.zero_add]at *;exact h B k w' h2 h3 h4
end
end
section
open Go.RowKit Go.Maps Go.WideMaps Tl
theorem wQ(A:Oa)(na ca:Nat)(B:Oa)(nb cb:Nat)(t:Tlr)(w:Wv):
  Calls prog 74 #[.agg #[H A na ca,H B nb cb,I J t.lvl,.bool t.bef]] w (bU (if kndT t=true then 0 else 8) w):=by
 obtain⟨an,cd,lvl,bef⟩:=t;have HE0:=U (kndT ⟨an,cd,lvl,bef⟩=(decide (0<=lvl)&&decide (lvl<=3)&&(decide (0<lvl)||!bef))) rfl;have B0:By w (w.alloc (.cells #[H A na ca,H B nb cb,I J lvl,.bool bef] 35)):=ba _ _;obtain⟨r,hr⟩:∃r:Int,(if kndT ⟨an,cd,lvl,bef⟩=true then 0 else 8)=r:=⟨_,rfl⟩;have HE:=U (∀b,(decide (0<=lvl)&&decide (lvl<=3)&&(decide (0<lvl)||!bef))=b->r=if b=true then 0 else 8) (fun b hb=>by rw[<-hr,HE0.out,hb]);rw[hr];clear hr HE0;dsimp only;by_cases h1:lvl<0
 ·have d1:decide (lvl<0)=true:=by simpa using h1
  have HK:=U (r=8) (HE.out false (by rw[decide_eq_false (by omega:¬0<=lvl)];rfl));clear HE;go_enter func74,ntmps74;go_wp2_with fail;go_ret;rw[HK.out];exact⟨rfl,B0⟩
 have d1:decide (lvl<0)=false:=by simpa using h1
 by_cases h2:3<lvl
 ·have d2:decide (3<lvl)=true:=by simpa using h2
  have HK:=U (r=8) (HE.out false (by rw[decide_eq_false (by omega:¬lvl<=3),Bool.and_false];rfl));clear HE;go_enter func74,ntmps74;go_wp2_with fail;go_ret;rw[HK.out];exact⟨rfl,B0⟩
 have d2:decide (3<lvl)=false:=by simpa using h2
 have HE2:=U (∀b,(decide (0<lvl)||!bef)=b->r=if b=true then 0 else 8) (fun b hb=>HE.out b (by rw[decide_eq_true (by omega:0<=lvl),decide_eq_true (by omega:lvl<=3)];exact hb));clear HE;cases bef with
 |false=>
  have HK:=U (r=0) (HE2.out true (by simp));clear HE2;go_enter func74,ntmps74;go_wp2_with fail;go_ret;rw[HK.out];exact⟨rfl,B0⟩
 |true=>
  by_cases h3:lvl=0
  ·have d3:(lvl==0)=true:=by simpa using h3
   have HK:=U (r=8) (HE2.out false (by rw[decide_eq_false (by omega:¬0<lvl)];rfl));clear HE2 h3;go_enter func74,ntmps74;go_wp2_with fail;go_ret;rw[HK.out];exact⟨rfl,B0⟩
  have d3:(lvl==0)=false:=by simpa using h3
  have HK:=U (r=0) (HE2.out true (by rw[decide_eq_true (by omega:0<lvl)];rfl));clear HE2;go_enter func74,ntmps74;go_wp2_with fail;go_ret;rw[HK.out];exact⟨rfl,B0⟩
theorem WQ(e:Elt)(k:Int)(hk:k=1\/k=2\/k=3)(w:Wv):
  Calls prog 39 #[.agg #[I J e.p,I J e.s,I J e.t,.bool e.v],I J k] w (bU (wt k e) w):=by
 obtain⟨p,s,t,v⟩:=e;have x0:=fun W=>(lZ (I J p) (I J s) (I J t) W).1
 have x1:=fun W=>(lZ (I J p) (I J s) (I J t) W).2.1
 have x2:=fun W=>(lZ (I J p) (I J s) (I J t) W).2.2
 have BEL:=G ((Below.refl w.heap.size w).alloc (Nat.le_refl _) (.cells #[I J p,I J s,I J t,.bool v] 77));dsimp only;rcases hk with rfl|rfl|rfl
 ·go_enter func39,ntmps39
  go_wp2_with fail;go_ret;exact⟨rfl,BEL.out⟩
 ·go_enter func39,ntmps39
  go_wp2_with fail;go_ret;exact⟨rfl,BEL.out⟩
 go_enter func39,ntmps39;go_wp2_with fail;go_ret;exact⟨rfl,BEL.out⟩
theorem mD(z:Int)(b:Bool)(x:Int)(w:Wv)(hx:0<=x/\x<=1000000):Calls prog 92 #[.agg #[I J z,.bool b],I J x] w (bU (mvd (lst z b) x) w):=by
 have BEL:=G ((Below.refl w.heap.size w).alloc (Nat.le_refl _) (.cells #[I J z,.bool b] 85));obtain⟨hx0,hx1⟩:=hx;obtain⟨r,hr⟩:∃r,mvd (lst z b) x=r:=⟨_,rfl⟩;have HR:=U (r=if lst z b<=x then x+1 else x) hr.symm;rw[hr];clear hr;by_cases h1:z<x
 ·have d1:decide (z<x)=true:=by simpa using h1
  have HF:=U (r=x+1) (by rw[HR.out,if_pos (by unfold lst;split<;>omega)]);clear HR;go_enter func92,ntmps92;go_wp2_with fail;go_ret;rw[HF.out];exact⟨rfl,BEL.out⟩
 have d1:decide (z<x)=false:=by simpa using h1
 cases b with
 |false=>
  have HF:=U (r=x) (by rw[HR.out,if_neg (by unfold lst;rw[if_neg (by decide)];omega)]);clear HR;go_enter func92,ntmps92;go_wp2_with fail;go_ret;rw[HF.out];exact⟨rfl,BEL.out⟩
 |true=>
  by_cases h2:x=z
  ·have d2:(x==z)=true:=by simpa using h2
   have HF:=U (r=x+1) (by rw[HR.out,if_pos (by unfold lst;rw[if_pos rfl];omega)]);clear HR h2;go_enter func92,ntmps92;go_wp2_with fail;go_ret;rw[HF.out];exact⟨rfl,BEL.out⟩
  have d2:(x==z)=false:=by simpa using h2
  have HF:=U (r=x) (by rw[HR.out,if_neg (by unfold lst;rw[if_pos rfl];omega)]);clear HR;go_enter func92,ntmps92;go_wp2_with fail;go_ret;rw[HF.out];exact⟨rfl,BEL.out⟩
theorem sN(z:Int)(b:Bool)(w:Wv)(hx:0<=z/\z<=1000000):Calls prog 95 #[.agg #[I J z,.bool b]] w (bU (lst z b) w):=by
 have BEL:=G ((Below.refl w.heap.size w).alloc (Nat.le_refl _) (.cells #[I J z,.bool b] 85));obtain⟨hx0,hx1⟩:=hx;cases b with
 |false=>
  go_enter func95,ntmps95;go_wp2_with fail;go_ret;exact⟨rfl,BEL.out⟩
 |true=>
  go_enter func95,ntmps95;go_wp2_with fail;go_ret;exact⟨rfl,BEL.out⟩
theorem RF(z:Int)(b:Bool)(d o:Nat)(x:Int)(w:Wv)(hx:0<=x/\x<=1000000)(hc:w.cell? ⟨d,o,N⟩=Z (I J x))(hf:w.frozen? ⟨d,o,N⟩=false):
  Calls prog 91 #[.agg #[I J z,.bool b],.pointer (Z ⟨d,o,N⟩)] w fun e w'=>e=.returned (.tuple #[])/\∃w1,By w w1/\w'=w1.setCell ⟨d,o,N⟩ (I J (mvd (lst z b) x)):=by
 have hd:d<w.heap.size:=World.block_lt_of_cell? w ⟨d,o,N⟩ hc;have B0:By w (w.alloc (.cells #[I J z,.bool b] 85)):=ba _ _;have X0:Box (w.alloc (.cells #[I J z,.bool b] 85)) w.heap.size 85 [I J z,.bool b]:=Box.new _ _ _ rfl;have W0E:∃W0,(w.alloc (.cells #[I J z,.bool b] 85))=W0:=⟨_,rfl⟩;have KR:=G (fun W=>mD z b x W hx);unfold bU at KR;obtain⟨y,hy⟩:∃y,mvd (lst z b) x=y:=⟨_,rfl⟩;rw[hy]at KR|-;clear hy hx;go_enter func91,ntmps91;go_upto_region 1 with(fail)
 obtain⟨W0,hW0⟩:=W0E;try rw[hW0]at B0 X0|-
 clear hW0;have c0:=X0.c 0 rfl;have c1:=X0.c 1 rfl;have l0:=X0.lt;have c2:=(B0.cell (p:=⟨d,o,N⟩) hd).trans hc;have c3:=(B0.frozen (p:=⟨d,o,N⟩) hd).trans hf;have hd0:d<W0.heap.size:=by have:=B0.size;omega
 have KR2:=G (fun W=>KR.out W);clear hc hf X0 KR;go_region_with (go_at_call 92;refine(KR2.out _).mono ?_;rintro e w2 ⟨rfl,hb2⟩;have g2:=(hb2.cell (p:=⟨d,o,N⟩) hd0).trans c2;have g3:=(hb2.frozen (p:=⟨d,o,N⟩) hd0).trans c3)
 all_goals(
  have hbf:=B0.trans (((show By W0 W0.drew from(Below.refl _ _).drew).trans hb2).mono B0.size)
  clear hb2 g2 g3 c0 c1 c2 c3 KR2
  go_wp2_with fail
  go_end0
  exact⟨rfl,_,hbf,rfl⟩)
theorem UC(z:Int)(b:Bool)(d o:Nat)(x:Int)(w:Wv)(hx:0<=x/\x<=1000000)(hc:w.cell? ⟨d,o+1,N⟩=Z (I J x))(hf:w.frozen? ⟨d,o+1,N⟩=false):
  Calls prog 93 #[.agg #[I J z,.bool b],.pointer (Z ⟨d,o,N⟩)] w fun e w'=>e=.returned (.tuple #[])/\∃w1,By w w1/\w'=w1.setCell ⟨d,o+1,N⟩ (I J (mvd (lst z b) x)):=by
 have hd:d<w.heap.size:=World.block_lt_of_cell? w ⟨d,o+1,N⟩ hc;have B0:By w (w.alloc (.cells #[I J z,.bool b] 85)):=ba _ _;have X0:Box (w.alloc (.cells #[I J z,.bool b] 85)) w.heap.size 85 [I J z,.bool b]:=Box.new _ _ _ rfl;have W0E:∃W0,(w.alloc (.cells #[I J z,.bool b] 85))=W0:=⟨_,rfl⟩;have KR:=G (fun W=>mD z b x W hx);unfold bU at KR;obtain⟨y,hy⟩:∃y,mvd (lst z b) x=y:=⟨_,rfl⟩;rw[hy]at KR|-;clear hy hx;go_enter func93,ntmps93;go_upto_region 1 with(fail)
 obtain⟨W0,hW0⟩:=W0E;try rw[hW0]at B0 X0|-
 clear hW0;have c0:=X0.c 0 rfl;have c1:=X0.c 1 rfl;have l0:=X0.lt;have c2:=(B0.cell (p:=⟨d,o+1,N⟩) hd).trans hc;have c3:=(B0.frozen (p:=⟨d,o+1,N⟩) hd).trans hf;have hd0:d<W0.heap.size:=by have:=B0.size;omega
 have KR2:=G (fun W=>KR.out W);clear hc hf X0 KR;go_region_with (go_at_call 92;refine(KR2.out _).mono ?_;rintro e w2 ⟨rfl,hb2⟩;have g2:=(hb2.cell (p:=⟨d,o+1,N⟩) hd0).trans c2;have g3:=(hb2.frozen (p:=⟨d,o+1,N⟩) hd0).trans c3)
 all_goals(
  have hbf:=B0.trans (((show By W0 W0.drew from(Below.refl _ _).drew).trans hb2).mono B0.size)
  clear hb2 g2 g3 c0 c1 c2 c3 KR2
  go_wp2_with fail
  go_end0
  exact⟨rfl,_,hbf,rfl⟩)
theorem WB(z:Int)(b:Bool)(d o:Nat)(x:Int)(w:Wv)(hx:0<=x/\x<=1000000)(hc:w.cell? ⟨d,o+2,N⟩=Z (I J x))(hf:w.frozen? ⟨d,o+2,N⟩=false):
  Calls prog 94 #[.agg #[I J z,.bool b],.pointer (Z ⟨d,o,N⟩)] w fun e w'=>e=.returned (.tuple #[])/\∃w1,By w w1/\w'=w1.setCell ⟨d,o+2,N⟩ (I J (mvd (lst z b) x)):=by
 have hd:d<w.heap.size:=World.block_lt_of_cell? w ⟨d,o+2,N⟩ hc;have B0:By w (w.alloc (.cells #[I J z,.bool b] 85)):=ba _ _;have X0:Box (w.alloc (.cells #[I J z,.bool b] 85)) w.heap.size 85 [I J z,.bool b]:=Box.new _ _ _ rfl;have W0E:∃W0,(w.alloc (.cells #[I J z,.bool b] 85))=W0:=⟨_,rfl⟩;have KR:=G (fun W=>mD z b x W hx);unfold bU at KR;obtain⟨y,hy⟩:∃y,mvd (lst z b) x=y:=⟨_,rfl⟩;rw[hy]at KR|-;clear hy hx;go_enter func94,ntmps94;go_upto_region 1 with(fail)
 obtain⟨W0,hW0⟩:=W0E;try rw[hW0]at B0 X0|-
 clear hW0;have c0:=X0.c 0 rfl;have c1:=X0.c 1 rfl;have l0:=X0.lt;have c2:=(B0.cell (p:=⟨d,o+2,N⟩) hd).trans hc;have c3:=(B0.frozen (p:=⟨d,o+2,N⟩) hd).trans hf;have hd0:d<W0.heap.size:=by have:=B0.size;omega
 have KR2:=G (fun W=>KR.out W);clear hc hf X0 KR;go_region_with (go_at_call 92;refine(KR2.out _).mono ?_;rintro e w2 ⟨rfl,hb2⟩;have g2:=(hb2.cell (p:=⟨d,o+2,N⟩) hd0).trans c2;have g3:=(hb2.frozen (p:=⟨d,o+2,N⟩) hd0).trans c3)
 all_goals(
  have hbf:=B0.trans (((show By W0 W0.drew from(Below.refl _ _).drew).trans hb2).mono B0.size)
  clear hb2 g2 g3 c0 c1 c2 c3 KR2
  go_wp2_with fail
  go_end0
  exact⟨rfl,_,hbf,rfl⟩)
end
end Go.Proofs.YtkhmjidaeliccaaGreatDoor
