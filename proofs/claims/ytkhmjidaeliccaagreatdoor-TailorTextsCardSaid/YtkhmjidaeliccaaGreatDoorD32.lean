import Derived.Test.YtkhmjidaeliccaaGreatDoorD00
import Derived.Test.YtkhmjidaeliccaaGreatDoorD08
import Derived.Test.YtkhmjidaeliccaaGreatDoorD27
import Derived.Test.YtkhmjidaeliccaaGreatDoorD28
import Derived.Test.YtkhmjidaeliccaaGreatDoorD31
import Derived.Deep.Cut
import Derived.LaidSub
import Derived.Lib.LaidTab
set_option maxRecDepth 100000
set_option maxHeartbeats 51200000
namespace Go.Proofs.YtkhmjidaeliccaaGreatDoor
open Option renaming none->N,some->Z
open Value renaming int->I,slice->H
open IntKind renaming i64->J
open Go.Proofs.Tryz
section
open Go.RowKit Go.Maps Go.WideMaps Go.Shelf Tl Pa
theorem NU(R a c:Li)(b:Bool)(k:Int):strOfNums R++(⟨#[38,32]⟩:ByteArray)++strOfNums (befI b)++⟨#[40]⟩++strOfNums (codI a)++⟨#[41,32]⟩++strOfNums (sgnI k)++⟨#[32,40]⟩++strOfNums (codI c)++⟨#[41,10]⟩=strOfNums (R++([38,32]++(befI b++(40::codI a++([41,32]++(sgnI k++([32,40]++(codI c++[41,10])))))))):=by
 have e0:(⟨#[38,32]⟩:ByteArray)=strOfNums [38,32]:=rfl;have e1:(⟨#[40]⟩:ByteArray)=strOfNums [40]:=rfl;have e2:(⟨#[41,32]⟩:ByteArray)=strOfNums [41,32]:=rfl;have e3:(⟨#[32,40]⟩:ByteArray)=strOfNums [32,40]:=rfl;have e4:(⟨#[41,10]⟩:ByteArray)=strOfNums [41,10]:=rfl;rw[e0,e1,e2,e3,e4,<-d_,<-d_,<-d_,<-d_,<-d_,<-d_,<-d_,<-d_,<-d_];simp only[List.cons_append,List.nil_append,List.append_assoc]
theorem RS(K:Oa)(k:Nat)(l:List Tlr)(w:Wv)(hK:eU w K l)(hll:l.length<=65536)(hts:∀t∈l,t.anc.length<=65536/\t.cds.length<=65536):Calls prog 29 #[H K l.length k] w (mM l w):=by
 have HK0:=G hK;have HTS:=G hts;have HLE:=G (zV hts);have KT:=G (fun A n k(z:Li)(W:Wv)h1 h2 h3=>RP A n k z W h1 h2 h3);have KK:=G (fun P a p Q b q(t:Tlr)(W:Wv)=>WH P a p Q b q t W);have KC:=G (fun A n k(z:Li)(W:Wv)h1 h2 h3 h4=>WG A n k z W h1 h2 h3 h4);unfold eD at KK;unfold mM;obtain⟨re,hre⟩:∃e,txtErr l=e:=⟨_,rfl⟩;obtain⟨rs,hrs⟩:∃s,strOfNums (if txtErr l=0 then txtI l else [])=s:=⟨_,rfl⟩
 have E1:=U (∀t:Tlr,t∈l->(rngT t.anc&&rngT t.cds)=false->re=1/\rs=⟨#[]⟩) (fun t ht h=>by
  have e:=zS (l:=l) (t:=t) ht h
  exact⟨hre.symm.trans e,by rw[<-hrs,e];rfl⟩)
 have E8:=U (∀t:Tlr,(∀t∈l,(rngT t.anc&&rngT t.cds)=true)->t∈l->kndT t=false->re=8/\rs=⟨#[]⟩) (fun t ha ht h=>by
  have e:=zT (l:=l) (t:=t) ha ht h
  exact⟨hre.symm.trans e,by rw[<-hrs,e];rfl⟩)
 have E0:=U ((∀t∈l,(rngT t.anc&&rngT t.cds)=true)->(∀t∈l,kndT t=true)->re=0/\rs=strOfNums (txtI l)) (fun ha hk=>by
  have e:=zU (l:=l) ha hk
  exact⟨hre.symm.trans e,by rw[<-hrs,e];rfl⟩)
 rw[hrs,hre];clear hre hrs hK hts;go_enter func29,ntmps29;go_wp2_with fail;go_loopw [4] (fun u wr=>∃i:Nat,i<=l.length/\u=I J i/\Hid (∀j,(hj:j<l.length)->j<i->(fun t:Tlr=>(rngT t.anc&&rngT t.cds)=true) l[j])/\w=wr) (fun u _=>l.length-(intOf u).toNat)
 case atStart=>exact⟨0,Nat.zero_le _,rfl,G (fun j _ h=>absurd h (by omega)),rfl⟩
 obtain⟨i,hi,rfl,hall,rfl⟩:=hrel;by_cases hlt:i<l.length
 ·obtain⟨kb,ko,rfl,hkb,hat⟩:=HK0.out.at hlt
  obtain⟨P,pk,Q,qk,t0,t1,t2,t3,hP,hQ⟩:=hat i hlt;have hti:=HTS.out _ (List.getElem_mem hlt);have HMI:=G (List.getElem_mem hlt);have HEX:=G (fun h=>oL (P:=fun t:Tlr=>(rngT t.anc&&rngT t.cds)=true) hlt hall.out h);have hil:(i:Int)<(l.length:Int):=by omega
  clear hat hall t2 t3;generalize l[i]=t at *;have K1:=G (fun W(h:w=W)=>KT.out P t.anc.length pk t.anc W (h ▸ hP) rfl (by omega));have K2:=G (fun W(h:w=W)=>KT.out Q t.cds.length qk t.cds W (h ▸ hQ) rfl (by omega));clear hP hQ hti;generalize t.anc.length=pn at *;generalize t.cds.length=qn at *;cases ha:rngT t.anc with
  |false=>
   have HE:=G (E1.out t HMI.out (by rw[ha];rfl));rw[ha]at K1;clear ha HEX;go_wp2_with fail;with_reducible refine(K1.out _ rfl).mono ?_
   rintro e W2 ⟨rfl,rfl⟩;go_wp2_with fail;go_ret2;obtain⟨rfl,rfl⟩:=HE.out;exact⟨rfl,Below.refl _ _⟩
  |true=>
   rw[ha]at K1;cases hc:rngT t.cds with
   |false=>
    have HE:=G (E1.out t HMI.out (by rw[hc,Bool.and_false]));rw[hc]at K2;clear ha hc HEX;go_wp2_with fail;with_reducible refine(K1.out _ rfl).mono ?_
    rintro e W2 ⟨rfl,rfl⟩;go_wp2_with fail;with_reducible refine(K2.out _ rfl).mono ?_
    rintro e W2 ⟨rfl,rfl⟩;go_wp2_with fail;go_ret2;obtain⟨rfl,rfl⟩:=HE.out;exact⟨rfl,Below.refl _ _⟩
   |true=>
    have HN:=G (HEX.out (by rw[ha,hc];rfl));rw[hc]at K2;clear ha hc HEX;go_wp2_with fail;with_reducible refine(K1.out _ rfl).mono ?_
    rintro e W2 ⟨rfl,rfl⟩;go_wp2_with fail;with_reducible refine(K2.out _ rfl).mono ?_
    rintro e W2 ⟨rfl,rfl⟩;go_wp2_with fail;go_roundw
    case rel=>exact⟨i+1,by omega,by go_num,G HN.out,by trivial⟩
    (try simp[intOf])<;>(try omega)
 obtain rfl:i=l.length:=by omega
 have HA:=G (oD (P:=fun t:Tlr=>(rngT t.anc&&rngT t.cds)=true) hall.out);clear hall hlt hi;go_wp2_with fail;go_loopw [5,6] (fun u v wr=>∃i:Nat,i<=l.length/\v=I J i/\u=.string (strOfNums (txtI (l.take i)))/\Hid (∀j,(hj:j<l.length)->j<i->(fun t:Tlr=>kndT t=true) l[j])/\By w wr) (fun _ v _=>l.length-(intOf v).toNat)
 case atStart=>exact⟨0,Nat.zero_le _,rfl,rfl,G (fun j _ h=>absurd h (by omega)),Below.refl _ _⟩
 obtain⟨i,hi,rfl,rfl,hall,hB⟩:=hrel;have HB:=G hB;clear hB;by_cases hlt:i<l.length
 ·obtain⟨kb,ko,rfl,hkb,hat⟩:=HK0.out.at hlt
  obtain⟨P,pk,Q,qk,t0,t1,t2,t3,hP,hQ⟩:=hat i hlt;have hti:=HTS.out _ (List.getElem_mem hlt);have HMI:=G (List.getElem_mem hlt);have HEX:=G (fun h=>oL (P:=fun t:Tlr=>kndT t=true) hlt hall.out h);have HRA:=G (rng_all (Bool.and_eq_true_iff.1 (HA.out _ (List.getElem_mem hlt))).1);have HRC:=G (rng_all (Bool.and_eq_true_iff.1 (HA.out _ (List.getElem_mem hlt))).2);have HSN:=G (tG hlt);have HL1:=HLE.out i;have hil:(i:Int)<(l.length:Int):=by omega
  clear hat hall;generalize l[i]=t at *;have HT:=U (∀W,By w W->W.cell? ⟨kb,ko+i*4,N⟩=Z (H P t.anc.length pk)/\W.cell? ⟨kb,ko+i*4+1,N⟩=Z (H Q t.cds.length qk)/\W.cell? ⟨kb,ko+i*4+2,N⟩=Z (I J t.lvl)/\W.cell? ⟨kb,ko+i*4+3,N⟩=Z (.bool t.bef)) (fun W hb=>⟨(hb.cell (p:=⟨kb,ko+i*4,N⟩) hkb).trans t0,(hb.cell (p:=⟨kb,ko+i*4+1,N⟩) hkb).trans t1,(hb.cell (p:=⟨kb,ko+i*4+2,N⟩) hkb).trans t2,(hb.cell (p:=⟨kb,ko+i*4+3,N⟩) hkb).trans t3⟩);have K1:=G (fun W(hb:By w W)=>KC.out P t.anc.length pk t.anc W (hP.below hb) rfl HRA.out.2 (by omega));have K2:=G (fun W(hb:By w W)=>KC.out Q t.cds.length qk t.cds W (hQ.below hb) rfl HRC.out.2 (by omega));have K3:=G (KK.out P t.anc.length pk Q t.cds.length qk t wr);have hsa:(strOfNums (codI t.anc)).size<=458752:=by rw[strOfNums_size];have:=codI_len t.anc;omega
  have hsc:(strOfNums (codI t.cds)).size<=458752:=by rw[strOfNums_size];have:=codI_len t.cds;omega
  have hss:(strOfNums (sgnI t.lvl)).size<=3:=by rw[strOfNums_size];exact yY t.lvl
  have hsr:(strOfNums (txtI (l.take i))).size<=65536*917525:=by rw[strOfNums_size];exact Nat.le_trans HL1 (Nat.mul_le_mul_right _ (by omega))
  have HLN:=G (fun b=>NU (txtI (l.take i)) t.anc t.cds b t.lvl);have HST:=U (txtI (l.take (i+1))=txtI (l.take i)++([38,32]++(befI t.bef++(40::codI t.anc++([41,32]++(sgnI t.lvl++([32,40]++(codI t.cds++[41,10])))))))) HSN.out;clear hP hQ t0 t1 t2 t3 hti HL1 HRA HRC HSN;generalize strOfNums (txtI (l.take i))=sR at *;obtain⟨t0,t1,t2,t3⟩:=HT.out wr HB.out;cases hk:kndT t with
  |false=>
   have HE:=G (E8.out t HA.out HMI.out hk);rw[hk]at K3;clear hk HEX;go_wp2_with fail;with_reducible refine K3.out.mono ?_
   rintro e W2 ⟨rfl,hb2⟩;have HB2:=G (HB.out.trans (hb2.mono HB.out.size));clear hb2;go_wp2_with fail;go_ret2;obtain⟨rfl,rfl⟩:=HE.out;exact⟨rfl,HB2.out⟩
  |true=>
   have HN:=G (HEX.out hk);have hlk:∃k:Nat,t.lvl=(k:Int)/\k<4:=by
    unfold kndT at hk;simp only[Bool.and_eq_true,decide_eq_true_eq]at hk;exact⟨t.lvl.toNat,by omega,by omega⟩
   rw[hk]at K3;obtain⟨lk,hlk,hk4⟩:=hlk;have hlk4:(lk:Int)<4:=by omega
   have HLK:=G hlk;clear hk HEX hlk;go_wp2_with fail;with_reducible refine K3.out.mono ?_
   rintro e W2 ⟨rfl,hb2⟩;have HB2:=G (HB.out.trans (hb2.mono HB.out.size));clear hb2 K3 t0 t1 t2 t3;obtain⟨t0,t1,t2,t3⟩:=HT.out W2 HB2.out
   have HSG:=U (∀(W:Wv)g,Box W g 9 [.string ⟨#[61]⟩,.string ⟨#[60]⟩,.string ⟨#[60,60]⟩,.string ⟨#[60,60,60]⟩]->W.cell? ⟨g,lk,N⟩=Z (.string (strOfNums (sgnI t.lvl)))) (fun W g h=>by
    rw[HLK.out]
    rcases show lk=0\/lk=1\/lk=2\/lk=3 by omega with rfl|rfl|rfl|rfl
    ·exact h.c 0 rfl
    ·exact h.c 1 rfl
    ·exact h.c 2 rfl
    ·exact h.c 3 rfl)
   rw[HLK.out]at HT t2;have HST2:=G HST.out;clear HST;generalize strOfNums (codI t.anc)=sa at *;generalize strOfNums (codI t.cds)=sc at *;generalize strOfNums (sgnI t.lvl)=sg at *;cases hbf:t.bef with
   |true=>
    rw[hbf]at HT t3 HST2;clear hbf;have h0:=HLN.out true;rw[show strOfNums (befI true)=⟨#[91,98,101,102,111,114,101,93,32]⟩from rfl,<-HST2.out]at h0;have HFIN:=G h0;clear h0 HLN HST2;have SH:=G (fun(W':Wv) (hb:By w W')=>show W'.cell? ⟨kb,ko+i*4+2,N⟩=Z (I J (lk:Int))/\By w W' from⟨(HT.out W' hb).2.2.1,hb⟩);go_wp2_with fail;with_reducible refine(K1.out W2 HB2.out).mono ?_
    rintro e W3 ⟨rfl,rfl⟩;go_wp2_with fail;with_reducible refine(K2.out W2 HB2.out).mono ?_
    rintro e W3 ⟨rfl,rfl⟩;clear t0 t1 t2 t3;go_wp2_with fail;refine wp_region_held_drew (S:=fun W'=>W'.cell? ⟨kb,ko+i*4+2,N⟩=Z (I J (lk:Int))/\By w W') (by kernel_rfl) (SH.out _ (HB2.out.trans ((show By W2 W2.drew from(Below.refl _ _).drew).mono HB2.out.size))) (fun hHeld=>?_);refine tK 0 69 ?_;refine tV 1 70 (.string (sR++(⟨#[38,32]⟩:ByteArray))) ?_ ?_
    ·intro w hSw;(try dsimp only at hSw);go_split_ands;go_simp;(try intro h9);(try omega)
    try simp only[Act.put,sA,sB,sC]
    refine tK 2 71 ?_;refine tV 3 72 (.string (sR++(⟨#[38,32]⟩:ByteArray)++(⟨#[91,98,101,102,111,114,101,93,32]⟩:ByteArray))) ?_ ?_
    ·intro w hSw;(try dsimp only at hSw);go_split_ands;go_simp;(try intro h9);(try omega)
    try simp only[Act.put,sA,sB,sC]
    refine tV 4 73 (.string (sR++(⟨#[38,32]⟩:ByteArray)++(⟨#[91,98,101,102,111,114,101,93,32]⟩:ByteArray)++(⟨#[40]⟩:ByteArray))) ?_ ?_
    ·intro w hSw;(try dsimp only at hSw);go_split_ands;go_simp;(try intro h9);(try omega)
    try simp only[Act.put,sA,sB,sC]
    refine tK 5 74 ?_;refine tV 6 75 (.string (sR++(⟨#[38,32]⟩:ByteArray)++(⟨#[91,98,101,102,111,114,101,93,32]⟩:ByteArray)++(⟨#[40]⟩:ByteArray)++sa)) ?_ ?_
    ·intro w hSw;(try dsimp only at hSw);go_split_ands;go_simp;(try intro h9);(try omega)
    try simp only[Act.put,sA,sB,sC]
    refine tV 7 76 (.string (sR++(⟨#[38,32]⟩:ByteArray)++(⟨#[91,98,101,102,111,114,101,93,32]⟩:ByteArray)++(⟨#[40]⟩:ByteArray)++sa++(⟨#[41,32]⟩:ByteArray))) ?_ ?_
    ·intro w hSw;(try dsimp only at hSw);go_split_ands;go_simp;(try intro h9);(try omega)
    try simp only[Act.put,sA,sB,sC]
    refine tK 9 78 ?_;refine tK 10 79 ?_;refine tK 11 80 ?_;refine tK 12 81 ?_;refine tK 13 82 ?_;refine tK 18 87 ?_;refine oE (R:=fun v W'=>∃g,v=H (Z ⟨g,0,N⟩) 4 4/\W'.cell? ⟨g,lk,N⟩=Z (.string sg)) (i:=8) (Z 77) rfl rfl (by kernel_rfl) (by rfl) (by go_simp) ((yM _).mono (by rintro e w' ⟨rfl,hx,hb⟩;exact⟨_,rfl,SH.out _ ((hHeld.2).trans (hb.mono (hHeld.2).size)),_,rfl,HSG.out _ _ hx⟩)) ?_;rintro _ w6 hS6 ⟨g,rfl,hg⟩;clear hHeld;have hHeld:=hS6;clear hS6;try simp only[Act.put,sA,sB,sC]
    refine tK 14 83 ?_;refine mR (i:=15) (w':=w6) (v:=.string sg) (Z 84) rfl rfl (by kernel_rfl) (by rfl) (by go_simp) hHeld ?_;try simp only[Act.put,sA,sB,sC]
    refine tV 16 85 (.string (sR++(⟨#[38,32]⟩:ByteArray)++(⟨#[91,98,101,102,111,114,101,93,32]⟩:ByteArray)++(⟨#[40]⟩:ByteArray)++sa++(⟨#[41,32]⟩:ByteArray)++sg)) ?_ ?_
    ·intro w hSw;(try dsimp only at hSw);go_split_ands;go_simp;(try intro h9);(try omega)
    try simp only[Act.put,sA,sB,sC]
    refine tV 17 86 (.string (sR++(⟨#[38,32]⟩:ByteArray)++(⟨#[91,98,101,102,111,114,101,93,32]⟩:ByteArray)++(⟨#[40]⟩:ByteArray)++sa++(⟨#[41,32]⟩:ByteArray)++sg++(⟨#[32,40]⟩:ByteArray))) ?_ ?_
    ·intro w hSw;(try dsimp only at hSw);go_split_ands;go_simp;(try intro h9);(try omega)
    try simp only[Act.put,sA,sB,sC]
    refine tV 19 88 (.string (sR++(⟨#[38,32]⟩:ByteArray)++(⟨#[91,98,101,102,111,114,101,93,32]⟩:ByteArray)++(⟨#[40]⟩:ByteArray)++sa++(⟨#[41,32]⟩:ByteArray)++sg++(⟨#[32,40]⟩:ByteArray)++sc)) ?_ ?_
    ·intro w hSw;(try dsimp only at hSw);go_split_ands;go_simp;(try intro h9);(try omega)
    try simp only[Act.put,sA,sB,sC]
    refine tV 20 89 (.string (sR++(⟨#[38,32]⟩:ByteArray)++(⟨#[91,98,101,102,111,114,101,93,32]⟩:ByteArray)++(⟨#[40]⟩:ByteArray)++sa++(⟨#[41,32]⟩:ByteArray)++sg++(⟨#[32,40]⟩:ByteArray)++sc++(⟨#[41,10]⟩:ByteArray))) ?_ ?_
    ·intro w hSw;(try dsimp only at hSw);go_split_ands;go_simp;(try intro h9);(try omega)
    try simp only[Act.put,sA,sB,sC]
    refine tK 21 5 ?_;refine wpAnyH_done (by kernel_rfl) ?_ _;have HB6:=G (hHeld.2);clear hHeld hg;go_wp2_with fail;go_roundw
    case rel=>exact⟨i+1,by omega,by go_num,by rw[HFIN.out],G HN.out,HB6.out⟩
    (try simp[intOf])<;>(try omega)
   |false=>
    rw[hbf]at HT t3 HST2;clear hbf;have h0:=HLN.out false;rw[show strOfNums (befI false)=⟨#[]⟩from rfl,<-HST2.out]at h0;have HFIN:=G h0;clear h0 HLN HST2;have SH:=G (fun(W':Wv) (hb:By w W')=>show W'.cell? ⟨kb,ko+i*4+2,N⟩=Z (I J (lk:Int))/\By w W' from⟨(HT.out W' hb).2.2.1,hb⟩);go_wp2_with fail;with_reducible refine(K1.out W2 HB2.out).mono ?_
    rintro e W3 ⟨rfl,rfl⟩;go_wp2_with fail;with_reducible refine(K2.out W2 HB2.out).mono ?_
    rintro e W3 ⟨rfl,rfl⟩;clear t0 t1 t2 t3;go_wp2_with fail;refine wp_region_held_drew (S:=fun W'=>W'.cell? ⟨kb,ko+i*4+2,N⟩=Z (I J (lk:Int))/\By w W') (by kernel_rfl) (SH.out _ (HB2.out.trans ((show By W2 W2.drew from(Below.refl _ _).drew).mono HB2.out.size))) (fun hHeld=>?_);refine tK 0 69 ?_;refine tV 1 70 (.string (sR++(⟨#[38,32]⟩:ByteArray))) ?_ ?_
    ·intro w hSw;(try dsimp only at hSw);go_split_ands;go_simp;(try intro h9);(try omega)
    try simp only[Act.put,sA,sB,sC]
    refine tK 2 71 ?_;refine tV 3 72 (.string (sR++(⟨#[38,32]⟩:ByteArray)++(⟨#[]⟩:ByteArray))) ?_ ?_
    ·intro w hSw;(try dsimp only at hSw);go_split_ands;go_simp;(try intro h9);(try omega)
    try simp only[Act.put,sA,sB,sC]
    refine tV 4 73 (.string (sR++(⟨#[38,32]⟩:ByteArray)++(⟨#[]⟩:ByteArray)++(⟨#[40]⟩:ByteArray))) ?_ ?_
    ·intro w hSw;(try dsimp only at hSw);go_split_ands;go_simp;(try intro h9);(try omega)
    try simp only[Act.put,sA,sB,sC]
    refine tK 5 74 ?_;refine tV 6 75 (.string (sR++(⟨#[38,32]⟩:ByteArray)++(⟨#[]⟩:ByteArray)++(⟨#[40]⟩:ByteArray)++sa)) ?_ ?_
    ·intro w hSw;(try dsimp only at hSw);go_split_ands;go_simp;(try intro h9);(try omega)
    try simp only[Act.put,sA,sB,sC]
    refine tV 7 76 (.string (sR++(⟨#[38,32]⟩:ByteArray)++(⟨#[]⟩:ByteArray)++(⟨#[40]⟩:ByteArray)++sa++(⟨#[41,32]⟩:ByteArray))) ?_ ?_
    ·intro w hSw;(try dsimp only at hSw);go_split_ands;go_simp;(try intro h9);(try omega)
    try simp only[Act.put,sA,sB,sC]
    refine tK 9 78 ?_;refine tK 10 79 ?_;refine tK 11 80 ?_;refine tK 12 81 ?_;refine tK 13 82 ?_;refine tK 18 87 ?_;refine oE (R:=fun v W'=>∃g,v=H (Z ⟨g,0,N⟩) 4 4/\W'.cell? ⟨g,lk,N⟩=Z (.string sg)) (i:=8) (Z 77) rfl rfl (by kernel_rfl) (by rfl) (by go_simp) ((yM _).mono (by rintro e w' ⟨rfl,hx,hb⟩;exact⟨_,rfl,SH.out _ ((hHeld.2).trans (hb.mono (hHeld.2).size)),_,rfl,HSG.out _ _ hx⟩)) ?_;rintro _ w6 hS6 ⟨g,rfl,hg⟩;clear hHeld;have hHeld:=hS6;clear hS6;try simp only[Act.put,sA,sB,sC]
    refine tK 14 83 ?_;refine mR (i:=15) (w':=w6) (v:=.string sg) (Z 84) rfl rfl (by kernel_rfl) (by rfl) (by go_simp) hHeld ?_;try simp only[Act.put,sA,sB,sC]
    refine tV 16 85 (.string (sR++(⟨#[38,32]⟩:ByteArray)++(⟨#[]⟩:ByteArray)++(⟨#[40]⟩:ByteArray)++sa++(⟨#[41,32]⟩:ByteArray)++sg)) ?_ ?_
    ·intro w hSw;(try dsimp only at hSw);go_split_ands;go_simp;(try intro h9);(try omega)
    try simp only[Act.put,sA,sB,sC]
    refine tV 17 86 (.string (sR++(⟨#[38,32]⟩:ByteArray)++(⟨#[]⟩:ByteArray)++(⟨#[40]⟩:ByteArray)++sa++(⟨#[41,32]⟩:ByteArray)++sg++(⟨#[32,40]⟩:ByteArray))) ?_ ?_
    ·intro w hSw;(try dsimp only at hSw);go_split_ands;go_simp;(try intro h9);(try omega)
    try simp only[Act.put,sA,sB,sC]
    refine tV 19 88 (.string (sR++(⟨#[38,32]⟩:ByteArray)++(⟨#[]⟩:ByteArray)++(⟨#[40]⟩:ByteArray)++sa++(⟨#[41,32]⟩:ByteArray)++sg++(⟨#[32,40]⟩:ByteArray)++sc)) ?_ ?_
    ·intro w hSw;(try dsimp only at hSw);go_split_ands;go_simp;(try intro h9);(try omega)
    try simp only[Act.put,sA,sB,sC]
    refine tV 20 89 (.string (sR++(⟨#[38,32]⟩:ByteArray)++(⟨#[]⟩:ByteArray)++(⟨#[40]⟩:ByteArray)++sa++(⟨#[41,32]⟩:ByteArray)++sg++(⟨#[32,40]⟩:ByteArray)++sc++(⟨#[41,10]⟩:ByteArray))) ?_ ?_
    ·intro w hSw;(try dsimp only at hSw);go_split_ands;go_simp;(try intro h9);(try omega)
    try simp only[Act.put,sA,sB,sC]
    refine tK 21 5 ?_;refine wpAnyH_done (by kernel_rfl) ?_ _;have HB6:=G (hHeld.2);clear hHeld hg;go_wp2_with fail;go_roundw
    case rel=>exact⟨i+1,by omega,by go_num,by rw[HFIN.out],G HN.out,HB6.out⟩
    (try simp[intOf])<;>(try omega)
 obtain rfl:i=l.length:=by omega
 have HKN:=G (oD (P:=fun t:Tlr=>kndT t=true) hall.out);have HE:=G (E0.out HA.out HKN.out);rw[List.take_length];clear hall;go_wp2_with fail;go_ret2;obtain⟨rfl,rfl⟩:=HE.out;exact⟨rfl,HB.out⟩
end
section
open Go.RowKit Go.Maps Go.WideMaps Tl Pa
theorem TailorTexts_any(K:Oa)(k:Nat)(l:List Tlr)(w:Wv)(hK:eU w K l)(hll:l.length<=maxLen)(hls:∀t∈l,t.anc.length<=maxLen/\t.cds.length<=maxLen)(hL:cK w)(hG:jR w):Calls prog 9 #[H K l.length k] w (iY w):=by
 have hml:maxLen<=9223372036854775807:=by unfold maxLen;omega
 have AL:=G (fun W(hb:By w W)=>oC W (hL.below hb));have FW:=G (vQ K k l w hK (by omega) (fun t ht=>by have:=hls t ht;omega));have TX:=G (fun W(hb:By w W)h1 h2=>WF K k l W (hK.below hb) h1 h2 (hG.below hb));have RX:=G (fun W(hb:By w W)h1 h2=>RS K k l W (hK.below hb) h1 h2);unfold mM at TX RX;unfold iY at AL|-;have HF:=G (fun(h:gN l=true)=>vP h);clear hK hL hG hls hml;obtain⟨fb,hfb⟩:∃b,gN l=b:=⟨_,rfl⟩;rw[hfb]at FW HF;clear hfb;generalize strOfNums (if txtErr l=0 then txtI l else [])=rs at *;generalize txtErr l=re at *;go_enter func9,ntmps9;cases fb with
 |false=>
  go_wp2_with fail;with_reducible refine FW.out.mono ?_
  rintro e W1 ⟨rfl,q1,rfl⟩;go_wp2_with fail;with_reducible refine(AL.out _ (eF w q1)).mono ?_
  rintro e W2 ⟨rfl,hb2⟩;have HBa:=G ((eF w q1).trans (hb2.mono (eF w q1).size));clear hb2;go_wp2_with fail;go_ret;exact⟨rfl,HBa.out⟩
 |true=>
  obtain⟨h6,h12⟩:=HF.out rfl;have TX1:=G (fun W hb=>TX.out W hb (by omega) (fun t ht=>by have:=h12 t ht;omega));have RX1:=G (fun W hb=>RX.out W hb (by omega) (fun t ht=>by have:=h12 t ht;omega));clear h6 h12 HF TX RX;go_wp2_with fail;with_reducible refine FW.out.mono ?_
  rintro e W1 ⟨rfl,q1,rfl⟩;have HB1:=G (eF w q1);go_wp2_with fail;with_reducible refine(TX1.out _ HB1.out).mono ?_
  rintro e W2 ⟨rfl,hb2⟩;have HB2:=G (HB1.out.trans (hb2.mono HB1.out.size));clear hb2;go_wp2_with fail;with_reducible refine(RX1.out _ HB2.out).mono ?_
  rintro e W3 ⟨rfl,hb3⟩;have HB3:=G (HB2.out.trans (hb3.mono HB2.out.size));clear hb3;go_wp2_with fail;with_reducible refine(AL.out _ HB3.out).mono ?_
  rintro e W4 ⟨rfl,hb4⟩;have HBa:=G (HB3.out.trans (hb4.mono HB3.out.size));clear hb4;go_wp2_with fail;go_ret;exact⟨rfl,HBa.out⟩
end
section
open Go.ChangeShapes Go.WideShapes Go.ChangeAt Go.RowKit Tl Pa
theorem vY:prog.globalNamed "unicodetext/codepoint.digits"=Z 0:=by kernel_rfl
theorem JW:(prog.globals[0]?).map (·.type)=Z 220:=by kernel_rfl
def dgs:Li:=[48,49,50,51,52,53,54,55,56,57,65,66,67,68,69,70]
theorem GY:∀i:Nat,i<16->dgs.getD i 0=hd i:=by decide
theorem laid2_of{W:Wv}(h:laidMet prog [("unicodetext/codepoint.digits",Rows.laid_unicodetext_codepoint_digits),("unicodetext/ordering.hangulRanges",Rows.laid_unicodetext_ordering_hangulRanges)] W):jR W/\cK W:=by
 have h1:Lib.TabIs prog W "unicodetext/codepoint.digits" .u8 dgs:=Lib.tabIs_of_head vY JW underlying220 underlying5 (by kernel_rfl) (by kernel_rfl) h;refine⟨fun i hi=>?_,NL ?_⟩
 ·rw[<-GY i hi]
  exact h1.cell vY i hi
 have h2:=h.filter (fun x=>x.1== "unicodetext/ordering.hangulRanges");simpa using h2
end
end Go.Proofs.YtkhmjidaeliccaaGreatDoor
