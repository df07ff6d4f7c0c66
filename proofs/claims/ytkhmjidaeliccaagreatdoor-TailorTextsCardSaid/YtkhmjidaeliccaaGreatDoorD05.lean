import Derived.Test.YtkhmjidaeliccaaGreatDoorD00
import Derived.Test.YtkhmjidaeliccaaGreatDoorD02
import Derived.Test.YtkhmjidaeliccaaGreatDoorD04
import Derived.Test.YtkhmjidaeliccaaGreatDoorProg
set_option maxRecDepth 100000
set_option maxHeartbeats 51200000
namespace Go.Proofs.YtkhmjidaeliccaaGreatDoor
open Option renaming none->N,some->Z
open Value renaming int->I,slice->H
open IntKind renaming i64->J
open Go.Proofs.Tryz
section
open Go.RowKit Go.Maps Go.WideMaps
theorem RK(m:Mp)(C:Oa)(cc:Nat)(w:Wv)(hC:aB w C m.toq)(hz:m.toq.length<=1048576):
  Calls prog 183 #[.agg #[I J m.frm,H C m.toq.length cc,.string m.tag]] w (eD (!cQ m) w):=by
 have M0:=G (xD (m:=m));have M1:=G (fun k hk h=>xF (m:=m) (k:=k) hk h);have M2:=G (xE (m:=m));generalize cQ m=bd at *;obtain⟨mf,mt,mg⟩:=m;dsimp only at *;have Ba:By w (w.alloc (.cells #[I J mf,H C mt.length cc,.string mg] 154)):=ba _ _;have HC:=G (hC.below Ba);have e0:(w.alloc (.cells #[I J mf,H C mt.length cc,.string mg] 154)).cell? ⟨w.heap.size,0,N⟩=Z (I J mf):=by simp
 have e1:(w.alloc (.cells #[I J mf,H C mt.length cc,.string mg] 154)).cell? ⟨w.heap.size,1,N⟩=Z (H C mt.length cc):=by simp
 have sa:(w.alloc (.cells #[I J mf,H C mt.length cc,.string mg] 154)).heap.size=w.heap.size+1:=by simp
 have WaE:∃Wa,(w.alloc (.cells #[I J mf,H C mt.length cc,.string mg] 154))=Wa:=⟨_,rfl⟩;clear hC;go_enter func183,ntmps183;go_wp2_with fail;obtain⟨Wa,hWa⟩:=WaE;rw[hWa]at Ba HC e0 e1 sa|-;clear hWa;go_loop [3] (fun u=>∃k:Nat,k<=mt.length/\u=I J k/\(∀t,(ht:t<mt.length)->t<k->inR 0 1114111 mt[t]=true)) (fun u=>mt.length-(intOf u).toNat)
 case atStart=>exact⟨0,Nat.zero_le _,rfl,fun t _ h=>by omega⟩
 obtain⟨k,hk,rfl,hok⟩:=hrel;have HOK:=G hok;clear hok;by_cases hltk:k<mt.length
 ·obtain⟨b2,o2,rfl,hc2⟩:=HC.out.at hltk
  have d0:=hc2 k hltk;have HBK:=G (fun h=>M1.out k hltk h);have HNK:=G (fun h=>eK (P:=fun z=>inR 0 1114111 z=true) hltk HOK.out h);clear hc2;generalize mt[k]=z at *;cases hvz:inR 0 1114111 z with
  |false=>
   obtain rfl:=HBK.out hvz;go_wp2_with(go_at_call 107;refine(lC z _).mono ?_;rw[hvz];rintro e w' ⟨rfl,rfl⟩);go_ret;exact⟨rfl,Ba⟩
  |true=>
   have HQ:=G (HNK.out hvz);go_wp2_with(go_at_call 107;refine(lC z _).mono ?_;rw[hvz];rintro e w' ⟨rfl,rfl⟩);go_round
   case rel=>exact⟨k+1,by omega,by go_num,HQ.out⟩
   simp[intOf];omega
 cases hv:inR 0 1114111 mf with
 |false=>
  obtain rfl:=M0.out hv;go_wp2_with(go_at_call 107;refine(lC mf _).mono ?_;rw[hv];rintro e w' ⟨rfl,rfl⟩);go_ret;exact⟨rfl,Ba⟩
 |true=>
  obtain rfl:=M2.out hv (fun t ht=>HOK.out t ht (by omega));go_wp2_with(go_at_call 107;refine(lC mf _).mono ?_;rw[hv];rintro e w' ⟨rfl,rfl⟩);go_ret;exact⟨rfl,Ba⟩
section
variable {ms:List Mp}
theorem G_{i k:Nat}(hi:i<ms.length)(hk:k<i)(h:bG ms[i]=bG (ms[k]'(by omega))):¬(ms.map bG).Nodup:=fun hn=>by
 have:=List.pairwise_iff_getElem.1 hn k i (by simp;omega) (by simpa using hi) hk;simp at this;exact this h.symm
theorem GZ(h:∀i,(hi:i<ms.length)->∀k,(hk:k<i)->bG ms[i]≠bG (ms[k]'(by omega))):(ms.map bG).Nodup:=by
 refine List.pairwise_iff_getElem.2 (fun k i hk hi hki=>?_);have:=h i (by simpa using hi) k hki;simp;exact fun e=>this e.symm
end
def jE(ms:List Mp):Bool:=!decide (ms.map bG).Nodup
theorem RQ(A:Oa)(n a:Nat)(ms:List Mp)(w:Wv)(hA:Mps w A ms)(hn:ms.length=n)(hz:lM ms):
  Calls prog 184 #[H A n a] w (fun e w'=>e=.returned (.bool (jE ms))/\Qt w w'):=by
 subst hn;have HA:=G hA;have hnz:=hz.n;have DY:=G (fun i(hi:i<ms.length)k(hk:k<i)(h:bG ms[i]=bG (ms[k]'(by omega)))=>show jE ms=true by unfold jE;simpa using G_ (i:=i) (k:=k) hi hk h);have DN:=G (fun h=>show jE ms=false by unfold jE;simpa using GZ (ms:=ms) h);generalize jE ms=R at *;clear hA hz;go_enter func184,ntmps184;go_wp2_with fail;go_loopw [3] (fun u wr=>∃i:Nat,i<=ms.length/\u=I J i/\(∀s,(hs:s<ms.length)->s<i->∀k,(hk:k<s)->bG ms[s]≠bG (ms[k]'(by omega)))/\Qt w wr) (fun u _=>ms.length-(intOf u).toNat)
 case atStart=>exact⟨0,Nat.zero_le _,rfl,fun s _ h=>by omega,Qt.refl _⟩
 obtain⟨i,hi,rfl,hno,hq⟩:=hrel;have HNO:=G hno;clear hno;by_cases hlt:i<ms.length
 ·obtain⟨wr0,rfl⟩:∃wr0:Wv,wr0=wr:=⟨_,rfl⟩
  have DYI:=G (fun k hk h=>DY.out i hlt k hk h)
  have HUP:=G (fun(h:∀k,(hk:k<i)->bG ms[i]≠bG (ms[k]'(by omega)))=>show ∀s,(hs:s<ms.length)->s<i+1->∀k,(hk:k<s)->bG ms[s]≠bG (ms[k]'(by omega))from fun s hs hsi=>by
   by_cases e:s<i
   ·exact HNO.out s hs e
   ·obtain rfl:s=i:=by omega
    exact h)
  go_wp2_with fail;go_loopw [4] (fun u wr=>∃k:Nat,k<=i/\u=I J k/\(∀t,(ht:t<i)->t<k->bG ms[i]≠bG (ms[t]'(by omega)))/\Qt w wr) (fun u _=>i-(intOf u).toNat)
  case atStart=>exact⟨0,Nat.zero_le _,rfl,fun t _ h=>by omega,hq⟩
  obtain⟨k,hk,rfl,hnk,hqk⟩:=hrel;have HNK:=G hnk;clear hnk;by_cases hltk:k<i
  ·obtain⟨b1,o1,rfl,hbl,hcell⟩:=(HA.out.below hqk.below).at hlt
   obtain⟨C,cc,c0,c1,c2,_,_⟩:=hcell i hlt;obtain⟨D,dd,d0,d1,d2,_,_⟩:=hcell k (by omega);have HY:=G (fun h=>DYI.out k hltk h)
   have HN:=G (fun(h:bG ms[i]≠bG (ms[k]'(by omega)))=>show ∀t,(ht:t<i)->t<k+1->bG ms[i]≠bG (ms[t]'(by omega))from fun t ht htk=>by
    by_cases e:t<k
    ·exact HNK.out t ht e
    ·obtain rfl:t=k:=by omega
     exact h)
   have HKE:=U (bG ms[i]=bG (ms[k]'(by omega)) ↔ (ms[i].frm=(ms[k]'(by omega)).frm/\ms[i].tag=(ms[k]'(by omega)).tag)) (⟨fun h=>by injection h with h1 h2;exact⟨h1,h2⟩,fun h=>by unfold bG;rw[h.1,h.2]⟩);clear hcell c1 d1 HNK;generalize hXX:bG ms[i]=X at *;generalize hYY:bG (ms[k]'(by omega))=Y at *;clear hXX hYY;generalize ms[i]=ma at *;generalize (ms[k]'(by omega))=mb at *;obtain⟨af,al,ag⟩:=ma;obtain⟨bf,bl',bg⟩:=mb;dsimp only at *;have i1:(0:Int)<=(i:Int):=by omega
   have i2:(i:Int)<(ms.length:Int):=by omega
   have i3:((i:Int)).toNat=i:=by omega
   have k1:(0:Int)<=(k:Int):=by omega
   have k2:(k:Int)<(ms.length:Int):=by omega
   have k3:((k:Int)).toNat=k:=by omega
   by_cases h1:af=bf
   ·have q1:(af==bf)=true:=by simpa using h1
    by_cases h2:ag=bg
    ·have q2:=VP h2
     obtain rfl:=HY.out (HKE.out.2 ⟨h1,h2⟩);clear HY HN HKE h1 h2 HUP DYI;go_wp2_with fail;go_quiet(fail);go_wp2_with fail;go_ret;exact⟨rfl,hqk.drewN _⟩
    have q2:=zC h2;have HQ:=G (HN.out (fun e=>h2 (HKE.out.1 e).2));clear HY HN HKE h1 h2;go_wp2_with fail;go_quiet(fail);go_wp2_with fail;go_roundw
    case rel=>exact⟨k+1,by omega,by go_num,HQ.out,hqk.drewN _⟩
    simp[intOf];omega
   have q1:(af==bf)=false:=by simpa using h1
   have HQ:=G (HN.out (fun e=>h1 (HKE.out.1 e).1));clear HY HN HKE h1;go_wp2_with fail;go_quiet(fail);go_wp2_with fail;go_roundw
   case rel=>exact⟨k+1,by omega,by go_num,HQ.out,hqk.drewN _⟩
   simp[intOf];omega
  have HQ:=G (HUP.out (fun t ht=>HNK.out t ht (by omega)));clear HUP DYI HNK;go_wp2_with fail;go_roundw
  case rel=>exact⟨i+1,by omega,by go_num,HQ.out,hqk⟩
  simp[intOf];omega
 obtain rfl:=DN.out (fun s hs k hk=>HNO.out s hs (by omega) k hk);go_wp2_with fail;go_ret;exact⟨rfl,hq⟩
def iQ(ms:List Mp):Int:=if dB ms≠0 then dB ms else if jE ms=true then 5 else 0
section
variable {ms:List Mp}
theorem un1{k:Nat}(hk:k<ms.length)(h:cQ ms[k]=true):iQ ms=1:=by unfold iQ;rw[yD hk h];rfl
theorem un2(h1:∀t,(ht:t<ms.length)->cQ ms[t]=false){k:Nat}(hk:k<ms.length)(h:64<ms[k].toq.length):iQ ms=2:=by unfold iQ;rw[yE h1 hk h];rfl
theorem un6(h1:∀t,(ht:t<ms.length)->cQ ms[t]=false)(h2:∀t,(ht:t<ms.length)->¬64<ms[t].toq.length){k:Nat}(hk:k<ms.length)(h:eB ms[k]=true):iQ ms=6:=by unfold iQ;rw[yF h1 h2 hk h];rfl
theorem un0(h1:∀t,(ht:t<ms.length)->cQ ms[t]=false)(h2:∀t,(ht:t<ms.length)->¬64<ms[t].toq.length)(h3:∀t,(ht:t<ms.length)->eB ms[t]=false):iQ ms=if jE ms=true then 5 else 0:=by unfold iQ;rw[yC h1 h2 h3];rfl
end
theorem refUnsorted_any(A:Oa)(n a:Nat)(ms:List Mp)(w:Wv)(hA:Mps w A ms)(hn:ms.length=n)(hz:lM ms):
  Calls prog 148 #[H A n a] w (bU (iQ ms) w):=by
 subst hn;have HA:=G hA;have TC:=G (fun W hb=>RQ A ms.length a ms W (hA.below hb) rfl hz);have hnz:=hz.n;have HZ:=G hz.e;have P1:=G (fun k hk h=>un1 (ms:=ms) (k:=k) hk h);have P2:=G (fun h1 k hk h=>un2 (ms:=ms) h1 (k:=k) hk h);have P6:=G (fun h1 h2 k hk h=>un6 (ms:=ms) h1 h2 (k:=k) hk h);have P0:=G (un0 (ms:=ms));clear hA hz;generalize iQ ms=R at *;go_enter func148,ntmps148;go_wp2_with fail;go_loopw [3] (fun u wr=>∃i:Nat,i<=ms.length/\u=I J i/\(∀t,(ht:t<ms.length)->t<i->cQ ms[t]=false)/\By w wr) (fun u _=>ms.length-(intOf u).toNat)
 case atStart=>exact⟨0,Nat.zero_le _,rfl,fun t _ h=>by omega,Below.refl _ _⟩
 obtain⟨i,hi,rfl,hno,hbr⟩:=hrel;have HNO:=G hno;clear hno;by_cases hlt:i<ms.length
 ·obtain⟨b1,o1,rfl,hbl,hcell⟩:=(HA.out.below hbr).at hlt
  obtain⟨C,cc,c0,c1,c2,hcc,hC⟩:=hcell i hlt;obtain⟨z1,z2⟩:=HZ.out i hlt;have HB:=G (fun h=>P1.out i hlt h);have HN:=G (fun h=>eK (P:=fun m=>cQ m=false) hlt HNO.out h);have CC:=G (RK ms[i] C cc wr hC z1);clear hcell hC;generalize ms[i]=mi at *;generalize cQ mi=bd at *;obtain⟨mf,mt,mg⟩:=mi;dsimp only at *;go_wp2_with fail;with_reducible refine CC.out.mono ?_
  rintro e w1 ⟨rfl,hb1⟩;have hb2:=hbr.trans (hb1.mono hbr.size);cases bd with
  |true=>
   obtain rfl:=HB.out rfl;go_wp2_with fail;go_ret;exact⟨rfl,hb2⟩
  |false=>
   have HQ:=G (HN.out rfl);go_wp2_with fail;go_roundw
   case rel=>exact⟨i+1,by omega,by go_num,HQ.out,hb2⟩
   simp[intOf];omega
 have H1:=G (fun t(ht:t<ms.length)=>HNO.out t ht (by omega));clear HNO P1;obtain⟨W5,rfl⟩:∃W5:Wv,W5=wr:=⟨_,rfl⟩;go_wp2_with fail;go_loop [4] (fun u=>∃i:Nat,i<=ms.length/\u=I J i/\(∀t,(ht:t<ms.length)->t<i->¬64<ms[t].toq.length)) (fun u=>ms.length-(intOf u).toNat)
 case atStart=>exact⟨0,Nat.zero_le _,rfl,fun t _ h=>by omega⟩
 obtain⟨i,hi,rfl,hno⟩:=hrel;have HNO:=G hno;clear hno;by_cases hlt:i<ms.length
 ·obtain⟨b1,o1,rfl,hbl,hcell⟩:=(HA.out.below hbr).at hlt
  obtain⟨C,cc,c0,c1,c2,hcc,hC⟩:=hcell i hlt;obtain⟨z1,z2⟩:=HZ.out i hlt;have HB:=G (fun h=>P2.out H1.out i hlt h);have HN:=G (fun h=>eK (P:=fun m:Mp=>¬64<m.toq.length) hlt HNO.out h);clear hcell hC;generalize ms[i]=mi at *;obtain⟨mf,mt,mg⟩:=mi;dsimp only at *;by_cases h64:64<mt.length
  ·have q1:decide ((64:Int)<(mt.length:Int))=true:=by simp;omega
   obtain rfl:=HB.out h64;go_wp2_with fail;go_ret;exact⟨rfl,hbr⟩
  have q1:decide ((64:Int)<(mt.length:Int))=false:=by simp;omega
  have HQ:=G (HN.out h64);go_wp2_with fail;go_round
  case rel=>exact⟨i+1,by omega,by go_num,HQ.out⟩
  simp[intOf];omega
 have H2:=G (fun t(ht:t<ms.length)=>HNO.out t ht (by omega));clear HNO P2;go_wp2_with fail;go_loop [5] (fun u=>∃i:Nat,i<=ms.length/\u=I J i/\(∀t,(ht:t<ms.length)->t<i->eB ms[t]=false)) (fun u=>ms.length-(intOf u).toNat)
 case atStart=>exact⟨0,Nat.zero_le _,rfl,fun t _ h=>by omega⟩
 obtain⟨i,hi,rfl,hno⟩:=hrel;have HNO:=G hno;clear hno;by_cases hlt:i<ms.length
 ·obtain⟨b1,o1,rfl,hbl,hcell⟩:=(HA.out.below hbr).at hlt
  obtain⟨C,cc,c0,c1,c2,hcc,hC⟩:=hcell i hlt;obtain⟨z1,z2⟩:=HZ.out i hlt;have HB:=G (fun h=>P6.out H1.out H2.out i hlt h);have HN:=G (fun h=>eK (P:=fun m:Mp=>eB m=false) hlt HNO.out h);clear hcell hC;generalize ms[i]=mi at *;have T0:=G (zI (m:=mi));have T1:=G (zJ (m:=mi));generalize eB mi=tb at *;obtain⟨mf,mt,mg⟩:=mi;dsimp only at *;by_cases hg:mg.size=0
  ·have g0:mg.toList=[]:=kN hg
   have HQ:=G (HN.out (T0.out hg));clear T0 T1 HB HN;go_wp2_with fail;go_round
   case rel=>exact⟨i+1,by omega,by go_num,HQ.out⟩
   simp[intOf];omega
  have g0:¬mg.toList=[]:=kM hg;have g1:mg.toList.isEmpty=false:=by simpa using g0
  have hT:=T1.out hg;cases hnm:bW mg with
  |true=>
   rw[hnm]at hT;have HQ:=G (HN.out hT);clear hT T0 T1 HB HN;go_wp2_with(go_at_call 153;refine(tQ mg _ z2).mono ?_;rw[hnm];rintro e w' ⟨rfl,rfl⟩);go_round
   case rel=>exact⟨i+1,by omega,by go_num,HQ.out⟩
   simp[intOf];omega
  |false=>
   rw[hnm]at hT;obtain rfl:=HB.out hT;clear hT T0 T1 HB HN;go_wp2_with(go_at_call 153;refine(tQ mg _ z2).mono ?_;rw[hnm];rintro e w' ⟨rfl,rfl⟩);go_ret;exact⟨rfl,hbr⟩
 have hR:=P0.out H1.out H2.out (fun t ht=>HNO.out t ht (by omega));have HTC:=G (TC.out W5 hbr);clear TC P0 P6 HNO;cases hd:jE ms with
 |true=>
  rw[hd]at hR HTC;have HR:=G hR;clear hR hd;go_wp2_with fail;with_reducible refine HTC.out.mono ?_
  rintro e w1 ⟨rfl,hq⟩;go_wp2_with fail;go_ret;exact⟨aQ HR.out.symm,hbr.trans (hq.below.mono hbr.size)⟩
 |false=>
  rw[hd]at hR HTC;have HR:=G hR;clear hR hd;go_wp2_with fail;with_reducible refine HTC.out.mono ?_
  rintro e w1 ⟨rfl,hq⟩;go_wp2_with fail;go_ret;exact⟨aQ HR.out.symm,hbr.trans (hq.below.mono hbr.size)⟩
section
variable {ms:List Mp}
end
def BI(r:Option (Li))(w:Wv)(e:Ending)(w':Wv):Prop:=∃E d,e=.returned (.tuple #[H E (r.getD []).length d,.bool r.isSome])/\(r.getD []).length<=d/\aB w' E (r.getD [])/\By w w'
def gF(ms:List Mp):Bool:=decide (ms.length<=20)&&ms.all (fun m=>decide (m.toq.length<=65)&&decide (m.tag.size<=40))
theorem yZ{ms:List Mp}(h:gF ms=true):lM ms/\ms.length<=20/\∀m∈ms,m.toq.length<=65/\m.tag.size<=40:=by
 simp only[gF,Bool.and_eq_true,decide_eq_true_eq,List.all_eq_true]at h;refine⟨⟨by omega,fun i hi=>?_⟩,h.1,h.2⟩;have:=h.2 ms[i] (List.getElem_mem hi);omega
theorem UX{ms:List Mp}(h:¬ms.length<=20):gF ms=false:=by simp[gF];omega
theorem UY{ms:List Mp}{k:Nat}(hk:k<ms.length)(h:¬(ms[k].toq.length<=65/\ms[k].tag.size<=40)):gF ms=false:=by
 cases e:gF ms with
 |false=>rfl
 |true=>exact absurd ((yZ e).2.2 ms[k] (List.getElem_mem hk)) h
theorem UZ{ms:List Mp}(h1:ms.length<=20)(h:∀t,(ht:t<ms.length)->ms[t].toq.length<=65/\ms[t].tag.size<=40):gF ms=true:=by
 simp only[gF,Bool.and_eq_true,decide_eq_true_eq,List.all_eq_true];refine⟨h1,fun m hm=>?_⟩;obtain⟨t,ht,rfl⟩:=List.getElem_of_mem hm;exact h t ht
theorem U_(A:Oa)(n a:Nat)(ms:List Mp)(w:Wv)(hA:Mps w A ms)(hn:ms.length=n)(hl:n<=9223372036854775807)(hs:∀i,(hi:i<ms.length)->ms[i].toq.length<=9223372036854775807/\ms[i].tag.size<=9223372036854775807):
  Calls prog 82 #[H A n a] w (fun e w'=>e=.returned (.bool (gF ms))/\w=w'):=by
 subst hn;have HA:=G hA;have HS:=G hs;have S1:=G (UX (ms:=ms));have S2:=G (fun k hk h=>UY (ms:=ms) (k:=k) hk h);have S3:=G (UZ (ms:=ms));generalize gF ms=R at *;clear hA hs;go_enter func82,ntmps82;go_wp2_with fail;go_loop [3] (fun u=>∃i:Nat,i<=ms.length/\i<=30/\u=I J i/\(∀t,(ht:t<ms.length)->t<i->ms[t].toq.length<=65/\ms[t].tag.size<=40)) (fun u=>ms.length-(intOf u).toNat)
 case atStart=>exact⟨0,Nat.zero_le _,by omega,rfl,fun t _ h=>by omega⟩
 obtain⟨i,hi,hi30,rfl,hno⟩:=hrel;have HNO:=G hno;clear hno;by_cases hlt:i<ms.length
 ·by_cases h30:i<30
  ·obtain⟨b1,o1,rfl,hbl,hcell⟩:=HA.out.at hlt
   obtain⟨C,cc,c0,c1,c2,hcc,hC⟩:=hcell i hlt;obtain⟨z1,z2⟩:=HS.out i hlt;have HB:=G (fun h=>S2.out i hlt h);have HN:=G (fun h=>eK (P:=fun m:Mp=>m.toq.length<=65/\m.tag.size<=40) hlt HNO.out h);have q30:decide ((i:Int)<30)=true:=by simp;omega
   clear hcell hC;generalize ms[i]=mi at *;obtain⟨mf,mt,mg⟩:=mi;dsimp only at *;by_cases h1:mt.length<=65
   ·have q1:decide ((65:Int)<(mt.length:Int))=false:=by simp;omega
    by_cases h2:mg.size<=40
    ·have q2:decide ((40:Int)<(mg.size:Int))=false:=by simp;omega
     have HQ:=G (HN.out ⟨h1,h2⟩);clear HB HN;go_wp2_with fail;go_round
     case rel=>exact⟨i+1,by omega,by omega,by go_num,HQ.out⟩
     simp[intOf];omega
    have q2:decide ((40:Int)<(mg.size:Int))=true:=by simp;omega
    obtain rfl:=HB.out (fun h=>h2 h.2);clear HB HN;go_wp2_with fail;go_ret;exact⟨rfl,rfl⟩
   have q1:decide ((65:Int)<(mt.length:Int))=true:=by simp;omega
   obtain rfl:=HB.out (fun h=>h1 h.1);clear HB HN;go_wp2_with fail;go_ret;exact⟨rfl,rfl⟩
  obtain rfl:=S1.out (by omega);have q30:decide ((i:Int)<30)=false:=by simp;omega
  have q20:decide (ms.length<=20)=false:=by simp;omega
  have q21:decide ((ms.length:Int)<=20)=false:=by simp;omega
  go_wp2_with fail;go_ret;exact⟨by simp;try omega,rfl⟩
 by_cases h20:ms.length<=20
 ·obtain rfl:=S3.out h20 (fun t ht=>HNO.out t ht (by omega))
  have q20:decide (ms.length<=20)=true:=by simpa using h20
  have q21:decide ((ms.length:Int)<=20)=true:=by simp;omega
  go_wp2_with fail;go_ret;exact⟨by simp;try omega,rfl⟩
 obtain rfl:=S1.out h20;have q20:decide (ms.length<=20)=false:=by simpa using h20
 have q21:decide ((ms.length:Int)<=20)=false:=by simp;omega
 go_wp2_with fail;go_ret;exact⟨by simp;try omega,rfl⟩
end
section
open Go.RowKit
def StF(ms:List Mp):Prop:=∀i j,(hi:i<ms.length)->(hj:j<ms.length)->i<j->ms[i].frm<ms[j].frm
theorem xS(f:Int)(va:Value)(t:ByteArray)(c:Int)(w:Wv):Calls prog 165 #[.agg #[I J f,va,.string t],I J c] w (bU (cW f c) w):=by
 have C:=G (fun W=>kV f c W);generalize cW f c=r at *;go_enter func165,ntmps165;go_wp2_with fail;with_reducible refine(C.out _).mono ?_
 rintro e w1 ⟨rfl,rfl⟩;go_wp2_with fail;go_ret;exact⟨rfl,ba _ _⟩
structure qI(ms:List Mp)(c:Int)(i:Nat)(f:Bool):Prop where
 le:i<=ms.length
 lo:∀t,(ht:t<ms.length)->t<i->ms[t].frm<c
 hi:∀t,(ht:t<ms.length)->i<=t->c<=ms[t].frm
 fd:f=decide (∃h:i<ms.length,ms[i].frm=c)
def BO(ms:List Mp)(c:Int)(w:Wv)(e:Ending)(w':Wv):Prop:=∃(i:Nat)(f:Bool),e=.returned (.tuple #[I J i,.bool f])/\qI ms c i f/\By w w'
theorem ED(A:Oa)(n k:Nat)(ms:List Mp)(c:Int)(w:Wv)(hA:Mps w A ms)(hn:ms.length=n)(hbig:n<=1048576)(hasc:StF ms):
  Calls prog 164 #[H A n k,I J c,.func (.func 165) #[] #[]] w (BO ms c w):=by
 subst hn;have HS:=G hasc;clear hasc;go_enter func164,ntmps164;go_wp2
 go_loopw [9,10] (fun u v wr=>∃i j:Nat,i<=j/\j<=ms.length/\u=I J i/\v=I J j/\(∀t,(ht:t<ms.length)->t<i->ms[t].frm<c)/\(∀t,(ht:t<ms.length)->j<=t->c<=ms[t].frm)/\By w wr)
  (fun u v _=>(intOf v).toNat-(intOf u).toNat)
 case atStart=>exact⟨0,ms.length,Nat.zero_le _,Nat.le_refl _,rfl,rfl,fun t _ h=>by omega,fun t h1 h2=>by omega,Below.refl _ _⟩
 obtain⟨i,j,hij,hj,rfl,rfl,hlo,hhi,hbel⟩:=hrel;have HLO:=G hlo;have HHI:=G hhi;clear hlo hhi;by_cases hlt:i<j
 ·obtain⟨h,hh,h1,h2,h3⟩:∃h:Nat,((i:Int)+(j:Int))/2=(h:Int)/\i<=h/\h<j/\h<ms.length:=⟨(i+j)/2,by omega,by omega,by omega,by omega⟩
  obtain⟨b,o,rfl,_,hcell⟩:=(hA.below hbel).at h3;obtain⟨D,d,c1,c2,c3,_,_⟩:=hcell h h3;clear hcell;have HO:=G (fun t(ht:t<ms.length)(hth:t<h)=>HS.out t h ht h3 hth);have HO2:=G (fun t(ht:t<ms.length)(hth:h<t)=>HS.out h t h3 ht hth);generalize hf:ms[h].frm=f at *;generalize ms[h].toq.length=tl at *;generalize ms[h].tag=tg at *;have E2:=G hf;have C:=G (fun W=>xS f (H D tl d) tg c W);clear hf;by_cases hk:f<c
  ·have hsc:cW f c=-1:=by unfold cW;rw[if_pos hk]
   rw[hsc]at C;clear hsc;go_wp2_with(go_at_call 165;refine(C.out _).mono ?_;rintro e w1 ⟨rfl,hb1⟩);go_roundw
   case rel=>
    refine⟨h+1,j,by omega,hj,by go_num,rfl,fun t ht g=>?_,HHI.out,hbel.trans (hb1.mono hbel.size)⟩;by_cases e:t=h
    ·subst e;rw[E2.out];exact hk
    have a1:=HO.out t ht (by omega);omega
   simp[intOf];omega
  have hsc:0<=cW f c:=by unfold cW;rw[if_neg hk];split<;>omega
  generalize cW f c=sc at *;go_wp2_with(go_at_call 165;refine(C.out _).mono ?_;rintro e w1 ⟨rfl,hb1⟩);go_roundw
  case rel=>
   refine⟨i,h,h1,by omega,rfl,rfl,HLO.out,fun t ht g=>?_,hbel.trans (hb1.mono hbel.size)⟩;by_cases e:t=h
   ·subst e;rw[E2.out];omega
   have a1:=HO2.out t ht (by omega);omega
  simp[intOf];omega
 obtain rfl:i=j:=by omega
 by_cases hend:i<ms.length
 ·obtain⟨b,o,rfl,_,hcell⟩:=(hA.below hbel).at hend
  obtain⟨D,d,c1,c2,c3,_,_⟩:=hcell i hend;clear hcell;have hci:=HHI.out i hend (Nat.le_refl _)
  have HF:=G (show decide (∃h:i<ms.length,ms[i].frm=c)=(cW ms[i].frm c==0) by
   rw[Bool.eq_iff_iff];simp only[decide_eq_true_eq,beq_iff_eq];unfold cW;rw[if_neg (by omega)];split
   ·constructor
    ·rintro⟨_,h⟩;omega
    intro h;omega
   ·exact⟨fun _=>rfl,fun _=>⟨hend,by omega⟩⟩)
  clear hci;generalize ms[i].frm=f at *;generalize ms[i].toq.length=tl at *;generalize ms[i].tag=tg at *;have C:=G (fun W=>xS f (H D tl d) tg c W);generalize cW f c=sc at *;go_wp2_with(go_at_call 165;refine(C.out _).mono ?_;rintro e w1 ⟨rfl,hb1⟩);go_ret2;refine⟨i,_,rfl,⟨hj,HLO.out,HHI.out,?_⟩,hbel.trans (hb1.mono hbel.size)⟩;exact HF.out.symm
 go_wp2_with fail;go_ret2;refine⟨i,_,rfl,⟨hj,HLO.out,HHI.out,?_⟩,hbel⟩;simp[hend]
theorem oN{ms:List Mp}{compat:Bool}{c:Int}{i:Nat}(hs:StF ms)(hi:i<ms.length)(h:ms[i].frm=c):aT ms compat c=if compat=true\/ms[i].tag.size=0 then Z i else N:=by
 by_cases e:compat=true\/ms[i].tag.size=0
 ·rw[if_pos e]
  unfold aT;rw[List.findIdx?_eq_some_iff_getElem];refine⟨hi,by simpa[h]using e,fun j hj=>?_⟩;have:=hs j i (by omega) hi hj;simp;intro he;omega
 rw[if_neg e];unfold aT;rw[List.findIdx?_eq_none_iff];intro x hx;obtain⟨j,hj,rfl⟩:=List.getElem_of_mem hx;by_cases g:j=i
 ·subst g;simpa[h]using e
 have:¬ms[j].frm=c:=fun he=>by
  rcases Nat.lt_or_gt_of_ne g with g|g
  ·have:=hs j i hj hi g;omega
  have:=hs i j hi hj g;omega
 simp[this]
theorem vV{ms:List Mp}{compat:Bool}{c:Int}(h:∀i,(hi:i<ms.length)->¬ms[i].frm=c):aT ms compat c=N:=by
 unfold aT;rw[List.findIdx?_eq_none_iff];intro x hx;obtain⟨j,hj,rfl⟩:=List.getElem_of_mem hx;simp[h j hj]
theorem qI.no{ms:List Mp}{c:Int}{i:Nat}{compat:Bool}(hs:StF ms)(h:qI ms c i false):aT ms compat c=N:=by
 refine vV fun t ht e=>?_
 have hf:=h.fd;have hn:¬∃g:i<ms.length,ms[i].frm=c:=by simpa using hf.symm
 by_cases g:t<i
 ·have:=h.lo t ht g;omega
 by_cases g2:t=i
 ·subst g2;exact hn ⟨ht,e⟩
 have h1:=h.hi i (by omega) (Nat.le_refl _);have h2:=hs i t (by omega) ht (by omega);omega
theorem sJ(A0:Oa)(n0 k0:Nat)(A1:Oa)(n1 k1:Nat)(A2:Oa)(n2 k2:Nat)(ms:List Mp)(c:Int)(compat:Bool)(w:Wv)(hA:Mps w A1 ms)(hn:ms.length=n1)(hbig:n1<=1048576)(hasc:StF ms):
  Calls prog 119 #[.agg #[H A0 n0 k0,H A1 n1 k1,H A2 n2 k2],I J c,.bool compat] w (BI (onM ms compat c) w):=by
 subst hn;have K:=G (fun W=>mJ c W);have D:=G (fun W=>AT c W);have S:=G (fun W(hb:By w W)=>ED A1 ms.length k1 ms c W (hA.below hb) rfl hbig hasc);have HS:=G hasc;clear hasc;have R4:=G (fun(h:4<=Hg.kind c)=>show onM ms compat c=Z (Hg.decomp c)from if_pos h);have R0:=G (fun(h:¬4<=Hg.kind c)=>show onM ms compat c=(aT ms compat c).map (toM ms)from if_neg h);generalize onM ms compat c=R at *;generalize Hg.kind c=kc at *;have B0:By w (w.alloc (.cells #[H A0 n0 k0,H A1 ms.length k1,H A2 n2 k2] 28)):=ba _ _;have s0:(w.alloc (.cells #[H A0 n0 k0,H A1 ms.length k1,H A2 n2 k2] 28)).heap.size=w.heap.size+1:=by simp
 have q0:(w.alloc (.cells #[H A0 n0 k0,H A1 ms.length k1,H A2 n2 k2] 28)).cell? ⟨w.heap.size,1,N⟩=Z (H A1 ms.length k1):=by simp
 have W0E:∃W0,(w.alloc (.cells #[H A0 n0 k0,H A1 ms.length k1,H A2 n2 k2] 28))=W0:=⟨_,rfl⟩;go_enter func119,ntmps119;go_wp2_with fail;obtain⟨W0,hW0⟩:=W0E;rw[hW0]at B0 s0 q0|-;clear hW0;with_reducible refine(K.out _).mono ?_
 rintro e w1 ⟨rfl,rfl⟩;by_cases h4:4<=kc
 ·obtain rfl:=R4.out h4
  clear R4 R0;generalize Hg.decomp c=zs at *;go_wp2_with fail;with_reducible refine(D.out _).mono ?_
  rintro e w1 ⟨E,d,rfl,hd,hE,hb⟩;go_wp2_with fail;go_ret2;exact⟨E,d,rfl,hd,hE,B0.trans (hb.mono B0.size)⟩
 have HR:=G (R0.out (by omega));clear R4 R0;go_wp2_with fail;with_reducible refine(S.out _ B0).mono ?_
 rintro e W1 ⟨i,f,rfl,hs,hb1⟩;have hb:=B0.trans (hb1.mono B0.size);have q1:W1.cell? ⟨w.heap.size,1,N⟩=Z (H A1 ms.length k1):=(hb1.cell (show w.heap.size<W0.heap.size by omega)).trans q0;cases f with
 |false=>
  obtain rfl:R=N:=by rw[HR.out,hs.no HS.out];rfl
  clear hs;go_wp2_with fail;go_ret2;exact⟨.none,0,rfl,Nat.le_refl _,Sl.nil _ _,hb⟩
 |true=>
  obtain⟨hi,hfr⟩:∃h:i<ms.length,ms[i].frm=c:=by simpa using hs.fd.symm
  have hfd:=oN (compat:=compat) HS.out hi hfr;have hto:toM ms i=ms[i].toq:=by simp[toM,List.getD,hi]
  obtain⟨b,o,rfl,_,hcell⟩:=(hA.below hb).at hi;obtain⟨E,d,c1,c2,c3,c4,c5⟩:=hcell i hi;clear hcell hs;have HR2:=G (HR.out.trans (by rw[hfd]));clear hfd HR;generalize hto2:ms[i].toq=toq at *;generalize ms[i].tag=tg at *;clear hto2;by_cases ht:tg.size=0
  ·have g0:tg.toList=[]:=kN ht
   obtain rfl:R=Z toq:=by rw[HR2.out,if_pos (.inr ht),Option.map_some,hto]
   clear hto HR2;go_wp2_with fail;go_ret2;exact⟨E,d,rfl,c4,c5,hb⟩
  have g0:¬tg.toList=[]:=kM ht;have g1:tg.toList.isEmpty=false:=by simpa using g0
  cases compat with
  |true=>
   obtain rfl:R=Z toq:=by rw[HR2.out,if_pos (.inl rfl),Option.map_some,hto]
   clear hto HR2;go_wp2_with fail;go_ret2;exact⟨E,d,rfl,c4,c5,hb⟩
  |false=>
   obtain rfl:R=N:=by rw[HR2.out,if_neg (by simp[ht]),Option.map_none]
   clear hto HR2;go_wp2_with fail;go_ret2;exact⟨.none,0,rfl,Nat.le_refl _,Sl.nil _ _,hb⟩
end
section
open Go.RowKit Go.Maps Go.WideMaps
def iok(z:Int):Prop:=(Lit.int .i64 z).wf=true
def m_(z:Int):Lit:=.int .i64 z
theorem rQ{y z:Int}(h:m_ y=m_ z):y=z:=by injection h
theorem iJ:Keyed prog 3:=int_keyed underlying3
theorem iH{z:Int}(h:iok z):keyOf prog 3 (I J z)=Z (m_ z):=keyOf_int_mk underlying3 h
abbrev kR(w:Wv)(b n:Nat)(f:Int->Option Value):Prop:=aR prog 3 m_ iok w b n f
def dQ(s:Nat)(w w':Wv):Prop:=w.heap.size<=w'.heap.size/\∀b,b<w.heap.size->b≠s+1->b≠s+2->b≠s+3->w'.heap[b]?=w.heap[b]?
section
variable {s:Nat}{a b c:Wv}
theorem dQ.refl(s:Nat)(a:Wv):dQ s a a:=⟨Nat.le_refl _,fun _ _ _ _ _=>rfl⟩
theorem dQ.trans(h:dQ s a b)(k:dQ s b c):dQ s a c:=⟨Nat.le_trans h.1 k.1,fun q hq h1 h2 h3=>(k.2 q (Nat.lt_of_lt_of_le hq h.1) h1 h2 h3).trans (h.2 q hq h1 h2 h3)⟩
theorem dQ.of_below(h:By a b):dQ s a b:=⟨h.size,fun q hq _ _ _=>h.block q hq⟩
theorem dQ.of_grown{u:Nat}(h:a.grownBy b (Z u))(hu:u=s+1\/u=s+2\/u=s+3):dQ s a b:=⟨h.size,fun q hq h1 h2 h3=>h.block q hq (fun e=>by injection e with e;omega)⟩
end
structure MS(A0:Oa)(n0 k0:Nat)(A1:Oa)(n1 k1:Nat)(A2:Oa)(n2 k2:Nat)(s:Nat)(w:Wv)(n:Nat)(mk:Int->Option Int)(cyc lng:Bool):Prop where
 bN:Box w s 28 [H A0 n0 k0,H A1 n1 k1,H A2 n2 k2]
 bC:Box w (s+1) 4 [.bool cyc]
 bL:Box w (s+2) 4 [.bool lng]
 mp:kR w (s+3) n (fun c=>(mk c).map (fun k=>I J k))
 bM:Box w (s+4) 229 [.map (Z (s+3))]
 bS:Box w (s+5) 147 [.func (.func 181) #[] #[.pointer (Z ⟨s,0,N⟩),.pointer (Z ⟨s+4,0,N⟩),.pointer (Z ⟨s+1,0,N⟩),.pointer (Z ⟨s+5,0,N⟩),.pointer (Z ⟨s+2,0,N⟩)]]
section
variable {A0:Oa}{n0 k0:Nat}{A1:Oa}{n1 k1:Nat}{A2:Oa}{n2 k2:Nat}{s:Nat}{w w':Wv}{n:Nat}{mk:Int->Option Int}{cyc lng:Bool}
theorem MS.below(h:MS A0 n0 k0 A1 n1 k1 A2 n2 k2 s w n mk cyc lng)(hb:By w w'):MS A0 n0 k0 A1 n1 k1 A2 n2 k2 s w' n mk cyc lng:=
 ⟨h.bN.below hb h.bN.lt,h.bC.below hb h.bC.lt,h.bL.below hb h.bL.lt,h.mp.below hb,h.bM.below hb h.bM.lt,h.bS.below hb h.bS.lt⟩
theorem MS.setC(h:MS A0 n0 k0 A1 n1 k1 A2 n2 k2 s w n mk cyc lng)(x:Bool):MS A0 n0 k0 A1 n1 k1 A2 n2 k2 s (w.setCell ⟨s+1,0,N⟩ (.bool x)) n mk x lng:=by
 have hg:=bT w ⟨s+1,0,N⟩ (.bool x);exact⟨h.bN.grown hg (by simp),h.bC.set 0 _,h.bL.grown hg (by simp),h.mp.kept hg (by simp),h.bM.grown hg (by simp),h.bS.grown hg (by simp)⟩
theorem MS.setL(h:MS A0 n0 k0 A1 n1 k1 A2 n2 k2 s w n mk cyc lng)(x:Bool):MS A0 n0 k0 A1 n1 k1 A2 n2 k2 s (w.setCell ⟨s+2,0,N⟩ (.bool x)) n mk cyc x:=by
 have hg:=bT w ⟨s+2,0,N⟩ (.bool x);exact⟨h.bN.grown hg (by simp),h.bC.grown hg (by simp),h.bL.set 0 _,h.mp.kept hg (by simp),h.bM.grown hg (by simp),h.bS.grown hg (by simp)⟩
theorem MS.put(h:MS A0 n0 k0 A1 n1 k1 A2 n2 k2 s w n mk cyc lng){m:Nat}{c k:Int}(hm:kR w' (s+3) m (fun y=>if y=c then Z (I J k)else(mk y).map (fun k=>I J k)))(hg:w.grownBy w' (Z (s+3))):
  MS A0 n0 k0 A1 n1 k1 A2 n2 k2 s w' m (dA mk c k) cyc lng:=by
 refine⟨h.bN.grown hg (by simp),h.bC.grown hg (by simp),h.bL.grown hg (by simp),hm.ext fun x _=>?_,h.bM.grown hg (by simp),h.bS.grown hg (by simp)⟩;unfold dA;split<;>rfl
theorem MS.ints(h:MS A0 n0 k0 A1 n1 k1 A2 n2 k2 s w n mk cyc lng)(hk:dQ s w w'){E:Oa}{zs:Li}(hs:aB w E zs):aB w' E zs:=fun hne=>by
 obtain⟨q,o,rfl,hc⟩:=hs hne;refine⟨q,o,rfl,fun j u hu=>?_⟩;have h1:=hc j u hu;have hi:∃z,u=I J z:=by
  rw[List.getElem?_map]at hu;cases hz:zs[j]? with
  |none=>rw[hz]at hu;cases hu
  |some z=>rw[hz]at hu;injection hu with hu;exact⟨z,hu.symm⟩
 obtain⟨z,rfl⟩:=hi
 have flag:∀(B:Nat)(x:Bool),Box w B 4 [.bool x]->q≠B:=fun B x hB e=>by
  subst e;unfold Box at hB;generalize o+j=m at h1;rcases m with _|m
  ·simp[World.cell?,hB]at h1
  simp[World.cell?,hB]at h1
 have hq3:q≠s+3:=fun e=>by rw[e,h.mp.nocell]at h1;cases h1
 exact(World.cell?_of_block (hk.2 q (World.block_lt_of_cell? w _ h1) (flag _ _ h.bC) (flag _ _ h.bL) hq3)).trans h1
end
def fM(ms:List Mp):Prop:=∀i,(hi:i<ms.length)->(0<=ms[i].frm/\ms[i].frm<=1114111)/\ms[i].toq.length<=64/\∀e∈ms[i].toq,0<=e/\e<=1114111
def hk(c:Int):Nat:=if 4<=Hg.kind c then 1 else 0
def fsM(ms:List Mp):Li:=ms.map Mp.frm
theorem wC(c:Int):hk c<=1:=by unfold hk;split<;>omega
theorem kY{c:Int}(h:4<=Hg.kind c):(Hg.decomp c).length<=3/\∀e∈Hg.decomp c,(0<=e/\e<=1114111)/\hk e=0/\1<=Hg.kind e:=by
 have h5:=(Hg.kind_range c).2;have k1:∀e:Int,0x1100<=e/\e<=0x1112->(0<=e/\e<=1114111)/\hk e=0/\1<=Hg.kind e:=fun e he=>⟨by omega,by unfold hk;rw[Hg.kind1 he];rfl,by rw[Hg.kind1 he];omega⟩
 have k2:∀e:Int,0x1161<=e/\e<=0x1175->(0<=e/\e<=1114111)/\hk e=0/\1<=Hg.kind e:=fun e he=>⟨by omega,by unfold hk;rw[Hg.kind2 he];rfl,by rw[Hg.kind2 he];omega⟩
 have k3:∀e:Int,0x11A8<=e/\e<=0x11C2->(0<=e/\e<=1114111)/\hk e=0/\1<=Hg.kind e:=fun e he=>⟨by omega,by unfold hk;rw[Hg.kind3 he];rfl,by rw[Hg.kind3 he];omega⟩
 by_cases h4:Hg.kind c=4
 ·obtain⟨b1,b2,b3⟩:=nE h4
  rw[rA h4];refine⟨by simp,fun e he=>?_⟩;simp only[List.mem_cons,List.not_mem_nil,or_false]at he;rcases he with rfl|rfl
  ·exact k1 _ (by omega)
  exact k2 _ (by omega)
 have h4':Hg.kind c=5:=by omega
 obtain⟨b1,b2,b3⟩:=nF h4';rw[rB h4'];refine⟨by simp,fun e he=>?_⟩;simp only[List.mem_cons,List.not_mem_nil,or_false]at he;rcases he with rfl|rfl|rfl
 ·exact k1 _ (by omega)
 ·exact k2 _ (by omega)
 exact k3 _ (by omega)
theorem gP{ms:List Mp}{b:Bool}{c:Int}{i:Nat}(h:aT ms b c=Z i):∃hi:i<ms.length,ms[i].frm=c/\(b=true\/ms[i].tag.size=0):=by
 unfold aT at h;rw[List.findIdx?_eq_some_iff_getElem]at h;obtain⟨hi,h1,_⟩:=h;exact⟨hi,by simpa using h1⟩
theorem xQ{ms:List Mp}{b:Bool}{c:Int}{toq:Li}(hc:fM ms)(h:onM ms b c=Z toq):
  toq.length<=64/\(∀e∈toq,0<=e/\e<=1114111)/\((hk c=1/\toq.length<=3/\∀e∈toq,hk e=0)\/(hk c=0/\c∈fsM ms)):=by
 unfold onM at h;split at h
 ·next h4=>
  injection h with h;subst h;obtain⟨h1,h2⟩:=kY h4;exact⟨by omega,fun e he=>(h2 e he).1,.inl ⟨by unfold hk;rw[if_pos h4],h1,fun e he=>(h2 e he).2.1⟩⟩
 next h4=>
 cases hf:aT ms b c with
 |none=>rw[hf]at h;cases h
 |some i=>
  rw[hf]at h;injection h with h;obtain⟨hi,h1,_⟩:=gP hf;have ht:toM ms i=ms[i].toq:=by simp[toM,List.getD,hi]
  rw[ht]at h;subst h;obtain⟨q1,q2,q3⟩:=hc i hi;exact⟨q2,q3,.inr ⟨by unfold hk;rw[if_neg h4],List.mem_map.2 ⟨ms[i],List.getElem_mem hi,h1⟩⟩⟩
theorem rT{c:Int}(h:0<=c/\c<=1114111):iok c:=by
 unfold iok Lit.wf;simp[IntKind.min,IntKind.max,IntKind.signed,IntKind.bits];omega
theorem pQ(w:Wv):(zeroValue 3).run prog w=.ok (I J 0) w:=by kernel_rfl
structure qJ(A0:Oa)(n0 k0:Nat)(A1:Oa)(n1 k1:Nat)(A2:Oa)(n2 k2:Nat)(s:Nat)(ms:List Mp)(c:Int)(w:Wv)(n:Nat)(mk:Int->Option Int)(cyc:Bool)(v:Int)(w':Wv)(n':Nat)(mk':Int->Option Int)(cyc' lng':Bool):Prop where
 bd:1<=v/\v<=aK
 ext:dW mk mk'
 inv:eQ (onM ms true) aK mxE mk' cyc' lng'
 mon:cyc=true->cyc'=true
 sz:cyc'=false->Sz (onM ms true) aK c v
 st:MS A0 n0 k0 A1 n1 k1 A2 n2 k2 s w' n' mk' cyc' lng'
 kp:dQ s w w'
 bel:Below s w w'
 pot:n'+200*unmarked (fsM ms) mk'<=n+200*unmarked (fsM ms) mk+2*hk c
 mkd:∀toq,onM ms true c=Z toq->toq≠[]->∃k,mk' c=Z k
def mQ(A0:Oa)(n0 k0:Nat)(A1:Oa)(n1 k1:Nat)(A2:Oa)(n2 k2:Nat)(s:Nat)(ms:List Mp)(c:Int)(w:Wv)(n:Nat)(mk:Int->Option Int)(cyc:Bool)(e:Ending)(w':Wv):Prop:=
 ∃v n' mk' cyc' lng',e=.returned (I J v)/\qJ A0 n0 k0 A1 n1 k1 A2 n2 k2 s ms c w n mk cyc v w' n' mk' cyc' lng'
def qG(A0:Oa)(n0 k0:Nat)(A1:Oa)(n1 k1:Nat)(A2:Oa)(n2 k2:Nat)(s:Nat)(ms:List Mp)(w0:Wv)(u:Nat):Prop:=
 ∀(c:Int)(w:Wv)(n:Nat)(mk:Int->Option Int)(cyc lng:Bool),2*unmarked (fsM ms) mk+hk c<u->0<=c/\c<=1114111->eQ (onM ms true) aK mxE mk cyc lng->(∀x,mk x=Z (-1)->bR (onM ms true) x c)->
  MS A0 n0 k0 A1 n1 k1 A2 n2 k2 s w n mk cyc lng->Below s w0 w->n+200*unmarked (fsM ms) mk+2*hk c<=1000000000->
  Calls prog 181 #[I J c,.pointer (Z ⟨s,0,N⟩),.pointer (Z ⟨s+4,0,N⟩),.pointer (Z ⟨s+1,0,N⟩),.pointer (Z ⟨s+5,0,N⟩),.pointer (Z ⟨s+2,0,N⟩)] w
   (mQ A0 n0 k0 A1 n1 k1 A2 n2 k2 s ms c w n mk cyc)
theorem dW.finish{mk mk':Int->Option Int}{c v:Int}(hn:mk c=N)(hv:v≠-1)(h:dW (dA mk c (-1)) mk'):dW mk (dA mk' c v):=by
 refine⟨fun x k e=>?_,fun x e=>?_⟩
 ·have hx:¬x=c:=fun e'=>by rw[e',hn]at e;cases e
  rw[dV _ _ hx];exact h.old x k (by rw[dV _ _ hx];exact e)
 by_cases hx:x=c
 ·subst hx;rw[gS];intro e2;injection e2 with e2;exact hv e2
 rw[dV _ _ hx];exact h.new x (by rw[dV _ _ hx];exact e)
theorem dW.way{on:Int->Option (Li)}{mk mk':Int->Option Int}{c e:Int}(h:dW (dA mk c (-1)) mk')(hp:∀x,mk x=Z (-1)->bR on x c)(he:iV on c e):∀x,mk' x=Z (-1)->bR on x e:=by
 intro x hx;cases hm:dA mk c (-1) x with
 |none=>exact absurd hx (h.new x hm)
 |some v=>
  have h1:=h.old x v hm;rw[hx]at h1;injection h1 with h1;subst h1;by_cases e':x=c
  ·subst e';exact .one he
  rw[dV _ _ e']at hm;exact .more (hp x hm) he
structure nZ(A0:Oa)(n0 k0:Nat)(A1:Oa)(n1 k1:Nat)(A2:Oa)(n2 k2:Nat)(s:Nat)(ms:List Mp)(c:Int)(toq:Li)(w:Wv)(n:Nat)(mk:Int->Option Int)(cyc:Bool)(D i:Nat)(vs:Li)(w':Wv)(n':Nat)(mk':Int->Option Int)(cyc' lng':Bool):Prop where
 le:i<=toq.length
 ln:vs.length=i
 bd:∀v∈vs,1<=v/\v<=aK
 ext:dW (dA mk c (-1)) mk'
 inv:eQ (onM ms true) aK mxE mk' cyc' lng'
 mon:cyc=true->cyc'=true
 sz:cyc'=false->∀j,(h1:j<toq.length)->(h2:j<vs.length)->Sz (onM ms true) aK toq[j] vs[j]
 st:MS A0 n0 k0 A1 n1 k1 A2 n2 k2 s w' n' mk' cyc' lng'
 kp:dQ s w w'
 bel:Below s w w'
 pot:n'+200*unmarked (fsM ms) mk'<=n+1+200*unmarked (fsM ms) (dA mk c (-1))+D*i
section
variable {A0:Oa}{n0 k0:Nat}{A1:Oa}{n1 k1:Nat}{A2:Oa}{n2 k2:Nat}{s:Nat}{ms:List Mp}{c:Int}{toq:Li}{w:Wv}{n:Nat}{mk:Int->Option Int}{cyc:Bool}{D i:Nat}{vs:Li}{w':Wv}{n':Nat}{mk':Int->Option Int}{cyc' lng':Bool}
theorem EK{vs:Li}(h:∀v∈vs,1<=v/\v<=aK):0<=cU aK vs/\cU aK vs<=aK:=by
 by_cases e:vs=[]
 ·subst e;simp[cU,aK]
 have:=qP (cap:=aK) (by unfold aK;omega) (fun v hv=>(h v hv).1) e;omega
theorem nZ.next(h:nZ A0 n0 k0 A1 n1 k1 A2 n2 k2 s ms c toq w n mk cyc D i vs w' n' mk' cyc' lng')(hi:i<toq.length){v:Int}{w2:Wv}{n2':Nat}{mk2:Int->Option Int}{cyc2 lng2:Bool}
  (p:qJ A0 n0 k0 A1 n1 k1 A2 n2 k2 s ms toq[i] w' n' mk' cyc' v w2 n2' mk2 cyc2 lng2) (hD:2*hk toq[i]<=D):nZ A0 n0 k0 A1 n1 k1 A2 n2 k2 s ms c toq w n mk cyc D (i+1) (vs++[v]) w2 n2' mk2 cyc2 lng2:=by
 refine⟨hi,by simp[h.ln],fun x hx=>?_,h.ext.trans p.ext,p.inv,fun e=>p.mon (h.mon e),fun e j h1 h2=>?_,p.st,h.kp.trans p.kp,h.bel.trans p.bel,?_⟩
 ·rcases List.mem_append.1 hx with hx|hx
  ·exact h.bd x hx
  simp at hx;subst hx;exact p.bd
 ·by_cases e2:j<vs.length
  ·rw[List.getElem_append_left e2]
   refine h.sz ?_ j h1 e2;cases hc:cyc' with
   |false=>rfl
   |true=>rw[p.mon hc]at e;cases e
  have e3:j=i:=by simp at h2;have:=h.ln;omega
  subst e3;rw[List.getElem_append_right (by omega)];simpa[h.ln]using p.sz e
 have h1:=h.pot;have h2:=p.pot;rw[Nat.mul_succ];omega
end
theorem UN(A0:Oa)(n0 k0:Nat)(A1:Oa)(k1:Nat)(A2:Oa)(n2 k2:Nat)(s:Nat)(ms:List Mp)(w0:Wv)(hs0:s=w0.heap.size)(hA:Mps w0 A1 ms)(hst:StF ms)(hco:fM ms)(hbig:ms.length<=1048576)(u:Nat)
  (ih:qG A0 n0 k0 A1 ms.length k1 A2 n2 k2 s ms w0 u):qG A0 n0 k0 A1 ms.length k1 A2 n2 k2 s ms w0 (u+1):=by
 intro c w n mk cyc lng hu hc hinv hpath hms hbel hn;have HI:=G ih;clear ih;have ON:=G (fun W(hb:Below s w0 W)=>sJ A0 n0 k0 A1 ms.length k1 A2 n2 k2 ms c true W (hA.below (show Below w0.heap.size w0 W from hs0 ▸ hb)) rfl hbig hst);have KD:=G (fun toq=>xQ (ms:=ms) (b:=true) (c:=c) (toq:=toq) hco);have HV:=G hinv;have HP:=G hpath;have q0:w.cell? ⟨s,0,N⟩=Z (H A0 n0 k0):=hms.bN.cell rfl;have q1:w.cell? ⟨s,1,N⟩=Z (H A1 ms.length k1):=hms.bN.cell rfl;have q2:w.cell? ⟨s,2,N⟩=Z (H A2 n2 k2):=hms.bN.cell rfl;have HM:=G hms;clear hinv hpath hms hst hco hs0 hA;generalize hR:onM ms true c=R at *;have HR:=G hR;clear hR;go_enter func181,ntmps181;go_wp2_with fail;with_reducible refine(ON.out _ hbel).mono ?_
 rintro e w1 ⟨E,d,rfl,hd,hE,hb1⟩;clear ON;have HM1:=G (HM.out.below hb1);have HK1:=G (dQ.of_below (s:=s) hb1);have hsw:s<=w.heap.size:=Nat.le_of_lt HM.out.bN.lt;have HB1:=G (hb1.mono hsw)
 have leaf:∀(hl:R=N\/R=Z []),mQ A0 n0 k0 A1 ms.length k1 A2 n2 k2 s ms c w n mk cyc (.returned (I J 1)) w1:=fun hl=>by
  refine⟨1,n,mk,cyc,lng,rfl,⟨by unfold aK;omega,dW.refl _,HV.out,fun h=>h,fun _=>.leaf (by rw[HR.out];exact hl),HM1.out,HK1.out,HB1.out,by omega,fun toq h hne=>?_⟩⟩;rw[HR.out]at h;rcases hl with rfl|rfl
  ·cases h
  injection h with h;exact absurd h.symm hne
 have LF:=G leaf;clear leaf;cases R with
 |none=>
  go_wp2_with fail;go_ret;exact LF.out (by simp)
 |some toq=>
  simp only[Option.getD_some,Option.isSome_some]at hd hE|-;rcases toq with _|⟨t0,tr⟩
  ·go_wp2_with fail
   go_ret;exact LF.out (by simp)
  clear LF;generalize hto:t0::tr=toq at *;have hne:toq≠[]:=by rw[<-hto];simp
  have hlen:0<toq.length:=by rw[<-hto];simp
  clear hto;have p4:w1.cell? ⟨s+4,0,N⟩=Z (.map (Z (s+3))):=HM1.out.bM.cell rfl;have hkey:iok c:=rT hc;have hon:onM ms true c=Z toq:=HR.out;have HON:=G hon;clear hon;cases hm:mk c with
  |some k=>
   have HMK:=G hm;have f1:w1.frozen? ⟨s+1,0,N⟩=false:=HM1.out.bC.free 0;have q1':w1.cell? ⟨s+1,0,N⟩=Z (.bool cyc):=HM1.out.bC.cell rfl;have hkb:=HV.out.bd c k hm
   have FIN:=G (fun(v:Int) (b:Bool) (hv:v=max k 1) (hb:b=(cyc||(k==-1)))=>show mQ A0 n0 k0 A1 ms.length k1 A2 n2 k2 s ms c w n mk cyc (.returned (I J v)) (w1.setCell ⟨s+1,0,N⟩ (.bool b))from by
    subst hv;subst hb
    refine⟨_,n,mk,_,lng,rfl,⟨by unfold aK at *;omega,dW.refl _,HV.out.meet hm (fun e=>HP.out c e),fun h=>by simp[h],fun h=>?_,HM1.out.setC _,HK1.out.trans (dQ.of_grown (bT _ _ _) (.inl rfl)),HB1.out.setCell (by simp) _,by omega,fun _ _ _=>⟨k,hm⟩⟩⟩
    simp only[Bool.or_eq_false_iff,beq_eq_false_iff_ne]at h
    have h1:=HV.out.fin h.1 c k hm h.2
    have h2:=h1.bd (by unfold aK;omega)
    rw[Int.max_eq_left h2.1]
    exact h1)
   have mk_at:(mk c).map (fun k=>(Value.int .i64 k))=Z (I J k):=by rw[hm];rfl
   clear hm;cases cyc with
   |true=>
    go_wp2_with(at_lookup;refine lJ rfl _ _ 229 rfl HM1.out.mp iJ underlying229 (pQ _) rfl rfl hkey (iH hkey) ?_;rw[mk_at];simp only[Option.getD_some,Option.isSome_some]);all_goals(go_ret;exact FIN.out _ _ (by omega) (by simp))
   |false=>
    by_cases hk1:k=-1
    ·subst hk1
     go_wp2_with(at_lookup;refine lJ rfl _ _ 229 rfl HM1.out.mp iJ underlying229 (pQ _) rfl rfl hkey (iH hkey) ?_;rw[mk_at];simp only[Option.getD_some,Option.isSome_some]);all_goals(go_ret;exact FIN.out _ _ (by omega) (by simp))
    have hk2:(k==-1)=false:=by simpa using hk1
    rw[hk2]at FIN;clear hk2;go_wp2_with(at_lookup;refine lJ rfl _ _ 229 rfl HM1.out.mp iJ underlying229 (pQ _) rfl rfl hkey (iH hkey) ?_;rw[mk_at];simp only[Option.getD_some,Option.isSome_some]);all_goals(go_ret;exact FIN.out _ _ (by omega) (by simp[hk1]))
  |none=>
   have mk_at:(mk c).map (fun k=>(Value.int .i64 k))=N:=by rw[hm];rfl
   go_wp2_with first
    |(at_lookup;refine lJ rfl _ _ 229 rfl HM1.out.mp iJ underlying229 (pQ _) rfl rfl hkey (iH hkey) ?_;rw[mk_at];simp only[Option.getD_none,Option.isSome_none])
    |(at_mapUpdate;refine nT rfl _ _ _ 229 rfl HM1.out.mp iJ underlying229 (by unfold maxLen;omega) rfl rfl rfl hkey (iH hkey) (fun y _ e=>rQ e) ?_;intro w2 hM2 hg2)
   have MS2:=G (HM1.out.put (c:=c) (k:=-1) hM2 hg2);have hb2:Below s w w2:=lO HB1.out hg2 (by omega) (by have:=hb1.size;omega);have KD2:=G (HK1.out.trans (dQ.of_grown hg2 (.inr (.inr rfl))));have INT:=G (fun(W:Wv) (hk:dQ s w1 W)=>HM1.out.ints hk hE);have K12:=G (dQ.of_grown (s:=s) hg2 (.inr (.inr rfl)));clear hM2 hg2 hE mk_at p4;obtain⟨hl64,hcode,hdis⟩:=KD.out toq rfl
   obtain⟨D,hD1,hD2,hD3⟩:∃D,(∀e∈toq,2*unmarked (fsM ms) (dA mk c (-1))+hk e<u)/\(∀e∈toq,2*hk e<=D)/\n+2+200*unmarked (fsM ms) (dA mk c (-1))+D*64<=n+200*unmarked (fsM ms) mk+2*hk c:=by
    rcases hdis with⟨g1,_,g3⟩|⟨g1,g2⟩
    ·have hle:unmarked (fsM ms) (dA mk c (-1))<=unmarked (fsM ms) mk:=pJ fun x e=>by
      by_cases e':x=c
      ·rw[e',hm]
      rw[dV _ _ e']at e;exact e
     exact⟨0,fun e he=>by have:=g3 e he;omega,fun e he=>by have:=g3 e he;omega,by omega⟩
    have hlt:=zX (k:=-1) g2 hm;exact⟨2,fun e _=>by have:=wC e;omega,fun e _=>by have:=wC e;omega,by omega⟩
   have HD1:=G hD1;have HD2:=G hD2;have HD3:=G hD3;have HCO:=G hcode;have HMN:=G hm;have HN:=G hn;have HU:=G hu;clear hD1 hD2 hD3 hcode hdis KD hm hn hu
   go_loopw [12,46] (fun su q wr=>∃(i:Nat)(vs:Li)(n':Nat)(mk':Int->Option Int)(cyc' lng':Bool),su=I J (cU aK vs)/\q=I J i/\dQ s w1 wr/\nZ A0 n0 k0 A1 ms.length k1 A2 n2 k2 s ms c toq w n mk cyc D i vs wr n' mk' cyc' lng')
    (fun _ q _=>toq.length-(intOf q).toNat)
   case atStart=>
    exact⟨0,[],n+1,dA mk c (-1),cyc,lng,rfl,rfl,K12.out,⟨Nat.zero_le _,rfl,fun v h=>absurd h (by simp),dW.refl _,HV.out.begin HON.out hne HMN.out (by unfold aK;omega) (by unfold mxE;omega),fun h=>h,fun _ j _ h2=>by simp at h2,MS2.out,KD2.out,hb2,by simp⟩⟩
   obtain⟨i,vs,n',mk',cyc',lng',rfl,rfl,hkp,HL⟩:=hrel;have hsum:0<=cU aK vs/\cU aK vs<=65:=EK HL.bd;have hile:=HL.le;have HLP:=G HL;clear HL;by_cases hi:i<toq.length
   ·obtain⟨b,o,rfl,hcell⟩:=(INT.out wr hkp).at hi
    have hc0:=hcell i hi;clear hcell;have p5:wr.cell? ⟨s+5,0,N⟩=Z (.func (.func 181) #[] #[.pointer (Z ⟨s,0,N⟩),.pointer (Z ⟨s+4,0,N⟩),.pointer (Z ⟨s+1,0,N⟩),.pointer (Z ⟨s+5,0,N⟩),.pointer (Z ⟨s+2,0,N⟩)]):=HLP.out.st.bS.cell rfl;have hmem:toq[i]∈toq:=List.getElem_mem hi
    have CL:=G (HI.out toq[i] wr n' mk' cyc' lng' (by have h1:=HD1.out _ hmem;have h2:=HLP.out.ext.unmarked (fsM ms);omega) (HCO.out _ hmem) HLP.out.inv (HLP.out.ext.way HP.out ⟨toq,HON.out,hmem⟩) HLP.out.st (hbel.trans HLP.out.bel)
     (by have h1:=HLP.out.pot;have h2:=HD3.out;have h3:=HN.out;have h4:=HD2.out _ hmem;have h5:D*i+D<=D*64:=by { rw[<-Nat.mul_succ];exact Nat.mul_le_mul_left _ (by omega) };omega))
    have NX:=G (fun(v:Int) W n2' mk2 cyc2 lng2 (p:qJ A0 n0 k0 A1 ms.length k1 A2 n2 k2 s ms toq[i] wr n' mk' cyc' v W n2' mk2 cyc2 lng2)=>HLP.out.next hi p (HD2.out _ hmem));clear hmem;generalize toq[i]=te at *;have CS:=G (fun v=>(EN aK vs v));generalize cU aK vs=sm at *;unfold aK at CS;go_wp2_with fail;with_reducible refine CL.out.mono ?_
    rintro e W ⟨v,n2',mk2,cyc2,lng2,rfl,hp⟩;have hvb:=hp.bd;have NX2:=G (NX.out v W n2' mk2 cyc2 lng2 hp);have HKK:=G (hkp.trans hp.kp);clear hp CL NX p5;unfold aK at hvb;have CV:=G (CS.out v);go_wp2_with fail
    all_goals
     go_roundw
     case rel=>exact⟨i+1,vs++[v],n2',mk2,cyc2,lng2,by { show _=Value.int .i64 (cU 65 (vs++[v]));rw[CV.out]<;>(congr 1<;>(split<;>omega)) },by go_num,HKK.out,NX2.out⟩
     simp[intOf];omega
   have hi':i=toq.length:=by omega
   subst hi';have p4:wr.cell? ⟨s+4,0,N⟩=Z (.map (Z (s+3))):=HLP.out.st.bM.cell rfl;have hvne:vs≠[]:=fun e=>by have:=HLP.out.ln;rw[e]at this;simp at this;omega
   have hpos:=qP (cap:=aK) (by unfold aK;omega) (fun v hv=>(HLP.out.bd v hv).1) hvne;have HZ:=G (fun(h:cyc'=false)=>Sz.node (on:=onM ms true) (cap:=aK) HON.out hne HLP.out.ln (fun j h1 h2=>HLP.out.sz h j h1 h2));have hmc:mk' c=Z (-1):=HLP.out.ext.old c (-1) (gS _ _ _);have hnn:n' < maxLen:=by
    have h1:=HLP.out.pot;have h2:=HD3.out;have h3:=HN.out;have h5:D*toq.length<=D*64:=Nat.mul_le_mul_left _ hl64;unfold maxLen;omega
   have POT:=U (n'+1+200*unmarked (fsM ms) (dA mk' c (cU aK vs))<=n+200*unmarked (fsM ms) mk+2*hk c) (by
    have h1:=HLP.out.pot;have h2:=HD3.out
    have h5:D*toq.length<=D*64:=Nat.mul_le_mul_left _ hl64
    have h6:unmarked (fsM ms) (dA mk' c (cU aK vs))<=unmarked (fsM ms) mk':=pJ fun x e=>by
     by_cases e':x=c
     ·rw[e',gS]at e;cases e
     rw[dV _ _ e']at e;exact e
    omega)
   have hsW:s<=wr.heap.size:=Nat.le_of_lt HLP.out.st.bN.lt
   have FIN:=G (fun(w3:Wv) (hM3:kR w3 (s+3) (n'+1) (fun y=>if y=c then Z (I J (cU aK vs))else(mk' y).map (fun k=>I J k))) (hg3:wr.grownBy w3 (Z (s+3))) (b:Bool) (hb:b=(lng' || decide (64<cU aK vs)))=>show
    mQ A0 n0 k0 A1 ms.length k1 A2 n2 k2 s ms c w n mk cyc (.returned (I J (cU aK vs))) (w3.setCell ⟨s+2,0,N⟩ (.bool b))from by
     subst hb
     exact⟨cU aK vs,n'+1,dA mk' c (cU aK vs),cyc',lng' || decide (64<cU aK vs),rfl,⟨hpos,HLP.out.ext.finish HMN.out (by omega),HLP.out.inv.finish HON.out hne hmc hpos HZ.out (by unfold mxE;omega),HLP.out.mon,HZ.out,(HLP.out.st.put hM3 hg3).setL _,
      (HLP.out.kp.trans (dQ.of_grown hg3 (.inr (.inr rfl)))).trans (dQ.of_grown (bT _ _ _) (.inr (.inl rfl))),(lO HLP.out.bel hg3 (by omega) hsW).setCell (by simp) _,POT.out,fun _ _ _=>⟨_,gS _ _ _⟩⟩⟩)
   have LG:=G (fun(w3:Wv) (hg3:wr.grownBy w3 (Z (s+3)))=>HLP.out.st.bL.grown hg3 (by simp));have HMP:=G HLP.out.st.mp;clear hpos hmc HZ POT hvne;generalize cU aK vs=sm at *;generalize hl:lng'=lg at *;clear HLP hl;go_wp2_with(at_mapUpdate;refine nT rfl _ _ _ 229 rfl HMP.out iJ underlying229 hnn rfl rfl rfl hkey (iH hkey) (fun y _ e=>rQ e) ?_;intro w3 hM3 hg3;have f3:w3.frozen? ⟨s+2,0,N⟩=false:=(LG.out w3 hg3).free 0;have q3:w3.cell? ⟨s+2,0,N⟩=Z (.bool lg):=(LG.out w3 hg3).cell rfl;have FN:=G (FIN.out w3 hM3 hg3);clear hM3 hg3;cases lg);all_goals go_wp2_with fail
   all_goals(go_ret;exact FN.out _ (by simp))
theorem UM(A0:Oa)(n0 k0:Nat)(A1:Oa)(k1:Nat)(A2:Oa)(n2 k2:Nat)(s:Nat)(ms:List Mp)(w0:Wv)(hs0:s=w0.heap.size)(hA:Mps w0 A1 ms)(hst:StF ms)(hco:fM ms)(hbig:ms.length<=1048576)(u:Nat):
  qG A0 n0 k0 A1 ms.length k1 A2 n2 k2 s ms w0 u:=by
 induction u with
 |zero=>intro c w n mk cyc lng hu;omega
 |succ u ih=>exact UN A0 n0 k0 A1 k1 A2 n2 k2 s ms w0 hs0 hA hst hco hbig u ih
end
section
open Go.RowKit
def c_(ms:List Mp):Prop:=∀i,(hi:i<ms.length)->Hg.kind ms[i].frm=0
structure iW(ms:List Mp)(cyc lng:Bool):Prop where
 cy:cyc=true->∃x,bR (onM ms true) x x
 ends:cyc=false->∀i,(hi:i<ms.length)->∃v,Sz (onM ms true) aK ms[i].frm v
 lg:cyc=false->(lng=true ↔ ∃i,∃hi:i<ms.length,∃v,Sz (onM ms true) aK ms[i].frm v/\mxE<v)
theorem fT{ms:List Mp}{i:Nat}(hi:i<ms.length):jF ms i=ms[i].frm:=by simp[jF,List.getD,hi]
theorem mH{ms:List Mp}{i:Nat}(hi:i<ms.length):toM ms i=ms[i].toq:=by simp[toM,List.getD,hi]
theorem mB{ms:List Mp}(hs:StF ms)(hh:c_ ms)(compat:Bool){i:Nat}(hi:i<ms.length):onM ms compat ms[i].frm=if compat=true\/ms[i].tag.size=0 then Z ms[i].toq else N:=by
 unfold onM;rw[if_neg (by rw[hh i hi];omega),oN hs hi rfl];split
 ·rw[Option.map_some,mH hi]
 rfl
theorem xR{ms:List Mp}(hh:c_ ms)(compat:Bool){e:Int}(h1:1<=Hg.kind e)(h2:Hg.kind e<4):onM ms compat e=N:=by
 unfold onM;rw[if_neg (by omega),vV,Option.map_none];intro i hi he;have:=hh i hi;rw[he]at this;omega
theorem EM(n:Nat)(h:(n:Int)<=aK):cU aK (List.replicate n 1)=n:=by
 rw[qO (fun v hv=>by rw[List.eq_of_mem_replicate hv];omega) (by unfold aK;omega)];have:∀n:Nat,(List.replicate n (1:Int)).sum=n:=by
  intro n;induction n with
  |zero=>rfl
  |succ n ih=>rw[List.replicate_succ,List.sum_cons,ih];omega
 rw[this];omega
theorem qL{ms:List Mp}(hh:c_ ms)(compat:Bool){e:Int}(h:aT ms compat e=N):Sz (onM ms compat) aK e (dlM e):=by
 by_cases h4:4<=Hg.kind e
 ·obtain⟨d1,d2⟩:=kY h4
  have hon:onM ms compat e=Z (Hg.decomp e):=if_pos h4;have hne:Hg.decomp e≠[]:=by
   have h5:=(Hg.kind_range e).2;by_cases h44:Hg.kind e=4
   ·rw[rA h44];simp
   rw[rB (by omega)];simp
  have:=Sz.node (on:=onM ms compat) (cap:=aK) (vs:=List.replicate (Hg.decomp e).length 1) hon hne (by simp) (fun i h1 h2=>by
   rw[List.getElem_replicate]
   obtain⟨_,g2,g3⟩:=d2 _ (List.getElem_mem h1)
   refine .leaf (.inl (xR hh compat g3 ?_))
   unfold hk at g2
   split at g2
   ·cases g2
   ·omega)
  rw[EM _ (by unfold aK;omega)]at this;exact this
 have hd:dlM e=1:=by unfold dlM;rw[mW (by omega)];rfl
 rw[hd];refine .leaf (.inl ?_);unfold onM;rw[if_neg h4,h];rfl
theorem xC{ms:List Mp}(hs:StF ms)(hh:c_ ms)(compat:Bool):tP ms.length (jF ms) (toM ms) (aT ms compat) dlM aK (onM ms compat) (dZ ms compat):=by
 refine⟨by unfold aK;omega,fun i hi hk=>?_,fun i hi hk=>?_,fun e m h=>?_,fun e h=>qL hh compat h⟩
 ·rw[fT hi,mB hs hh compat hi,mH hi,if_pos]
  unfold dZ at hk;cases compat<;>simp_all [List.getD]
 ·rw[fT hi,mB hs hh compat hi,if_neg]
  unfold dZ at hk;cases compat<;>simp_all [List.getD]
 obtain⟨hi,h1,_⟩:=gP h;exact⟨hi,by rw[fT hi];exact h1⟩
theorem OA{ms:List Mp}(hh:c_ ms){c v:Int}(h:Sz (onM ms true) aK c v)(hv:mxE<v):∃i,∃hi:i<ms.length,ms[i].frm=c:=by
 cases hf:aT ms true c with
 |some i=>obtain⟨hi,h1,_⟩:=gP hf;exact⟨i,hi,h1⟩
 |none=>
  have h1:=h.func (qL hh true hf);subst h1;exfalso;unfold dlM mxE at hv;by_cases h4:4<=Hg.kind c
  ·have:=(kY h4).1;omega
  rw[mW (by omega)]at hv;simp at hv
theorem iW.of{ms:List Mp}{mk:Int->Option Int}{cyc lng:Bool}(hs:StF ms)(hh:c_ ms)(h:eQ (onM ms true) aK mxE mk cyc lng)(hf:∀x,mk x≠Z (-1))(hm:∀i,(hi:i<ms.length)->ms[i].toq≠[]->∃k,mk ms[i].frm=Z k):iW ms cyc lng:=by
 have hon:=fun i(hi:i<ms.length)=>(mB hs hh true hi).trans (if_pos (.inl rfl))
 have hsz:cyc=false->∀i,(hi:i<ms.length)->∃v,Sz (onM ms true) aK ms[i].frm v/\(mk ms[i].frm=Z v\/v=1):=fun hc i hi=>by
  by_cases ht:ms[i].toq=[]
  ·exact⟨1,.leaf (.inr (by rw[hon i hi,ht])),.inr rfl⟩
  obtain⟨k,hk⟩:=hm i hi ht;exact⟨k,h.fin hc _ k hk (fun e=>hf _ (by rw[hk,e])),.inl hk⟩
 refine⟨h.cy,fun hc i hi=>?_,fun hc=>⟨fun hl=>?_,?_⟩⟩
 ·obtain⟨v,h1,_⟩:=hsz hc i hi;exact⟨v,h1⟩
 ·obtain⟨c,k,h1,h2⟩:=h.lg1 hl
  have h3:=h.fin hc c k h1 (by unfold mxE at h2;omega);obtain⟨i,hi,he⟩:=OA hh h3 h2;subst he;exact⟨i,hi,k,h3,h2⟩
 rintro⟨i,hi,v,h1,h2⟩;obtain⟨v',g1,g2⟩:=hsz hc i hi;have:=h1.func g1;subst this;rcases g2 with g2|g2
 ·exact h.lg2 _ v g2 h2
 unfold mxE at h2;omega
theorem B_{ms:List Mp}(hs:StF ms){c v:Int}(h:Sz (onM ms true) aK c v):∃u,Sz (onM ms false) aK c u/\u<=v:=by
 have hsub:∀c toq,onM ms false c=Z toq->onM ms true c=Z toq:=fun c toq h=>by
  unfold onM at h|-;split
  ·next h4=>rw[if_pos h4]at h;exact h
  next h4=>
  rw[if_neg h4]at h;cases hf:aT ms false c with
  |none=>rw[hf]at h;cases h
  |some i=>
   obtain⟨hi,h1,_⟩:=gP hf;rw[hf]at h;rw[oN hs hi h1,if_pos (.inl rfl)];exact h
 have hcap:(1:Int)<=aK:=by unfold aK;omega
 induction h with
 | @leaf c h=>
  refine⟨1,.leaf ?_,by omega⟩;cases hf:onM ms false c with
  |none=>exact .inl rfl
  |some toq=>
   right;rcases h with h|h
   ·rw[hsub c toq hf]at h;cases h
   rw[hsub c toq hf]at h;exact h
 | @node c toq vs h1 h2 h3 h4 ih=>
  cases hf:onM ms false c with
  |none=>exact⟨1,.leaf (.inl hf),(Sz.bd hcap (Sz.node h1 h2 h3 h4)).1⟩
  |some to'=>
   have:=hsub c to' hf;rw[h1]at this;injection this with this;subst this
   have hch:∀i:Nat,∃u:Int,∀(hi:i<toq.length)(hv:i<vs.length),Sz (onM ms false) aK toq[i] u/\u<=vs[i]:=fun i=>by
    by_cases hi:i<toq.length
    ·obtain⟨u,g1,g2⟩:=ih i hi (by omega)
     exact⟨u,fun _ _=>⟨g1,g2⟩⟩
    exact⟨0,fun h=>absurd h hi⟩
   refine⟨cU aK ((List.range toq.length).map (fun i=>(hch i).choose)),.node hf h2 (by simp) (fun i h1 h2=>?_),?_⟩
   ·simp only[List.getElem_map,List.getElem_range]
    exact((hch i).choose_spec h1 (by omega)).1
   have hmono:∀(a b:Li),a.length=b.length->(∀i,(h1:i<a.length)->(h2:i<b.length)->a[i]<=b[i])->∀s t:Int,s<=t->a.foldl (fun s v=>min (s+v) aK) s<=b.foldl (fun s v=>min (s+v) aK) t:=by
    intro a;induction a with
    |nil=>intro b hl _ s t hst;cases b with|nil=>exact hst|cons _ _=>simp at hl
    |cons x a iha=>
     intro b hl hle s t hst;cases b with
     |nil=>simp at hl
     |cons y b=>
      have h0:=hle 0 (by simp) (by simp);simp only[List.getElem_cons_zero]at h0;refine iha b (by simpa using hl) (fun i g1 g2=>?_) _ _ (by dsimp only;omega);have:=hle (i+1) (by simp;omega) (by simp;omega);simpa using this
   refine hmono _ _ (by simp[h3]) (fun i g1 g2=>?_) 0 0 (by omega);simp only[List.getElem_map,List.getElem_range];simp at g1;exact((hch i).choose_spec g1 g2).2
end
end Go.Proofs.YtkhmjidaeliccaaGreatDoor
