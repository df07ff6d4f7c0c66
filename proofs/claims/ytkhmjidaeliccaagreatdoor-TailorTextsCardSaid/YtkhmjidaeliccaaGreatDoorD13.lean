import Derived.Test.YtkhmjidaeliccaaGreatDoorD00
import Derived.Test.YtkhmjidaeliccaaGreatDoorD02
import Derived.Test.YtkhmjidaeliccaaGreatDoorD04
import Derived.Test.YtkhmjidaeliccaaGreatDoorD06
import Derived.Test.YtkhmjidaeliccaaGreatDoorD07
import Derived.Test.YtkhmjidaeliccaaGreatDoorD10
import Derived.Test.YtkhmjidaeliccaaGreatDoorD12
import Derived.Deep.RegionWith
set_option maxRecDepth 100000
set_option maxHeartbeats 51200000
namespace Go.Proofs.YtkhmjidaeliccaaGreatDoor
open Option renaming none->N,some->Z
open Value renaming int->I,slice->H
open IntKind renaming i64->J
open Go.Proofs.Tryz
section
open Go.RowKit
theorem VT(b B off n c p m y:Nat)(e:TypeId)(key:Int->Int)(d:Li)(pre post:Lv)(w:Wv)
  (ih:∀(p' m' y':Nat)(d':Li)(w':Wv),Row w' b off e pre post d'->d'.length=n->p' < m'->m' < y'->y'<=n->n<=1099511627776->gI b B w' key->Srt.SortedOn key d' p' m'->Srt.SortedOn key d' m' y'->y' - p' < y-p->
   Calls prog 192 #[H (Z ⟨b,off,N⟩) n c,I J p',I J m',I J y',(.func (.func 123) #[] #[.pointer (Z ⟨B,0,N⟩)])] w' (iC (fun d''=>Srt.Done key d' d'' p' y') b off e pre post w'))
  (hR:Row w b off e pre post d) (hn:d.length=n) (hpm:p<m) (hmy:m<y) (hy:y<=n) (hbig:n<=1099511627776) (hC:gI b B w key) (hs1:Srt.SortedOn key d p m) (hs2:Srt.SortedOn key d m y)
  (hp1:¬m=p+1) (hy1:¬y=m+1) :
  Calls prog 192 #[H (Z ⟨b,off,N⟩) n c,I J p,I J m,I J y,(.func (.func 123) #[] #[.pointer (Z ⟨B,0,N⟩)])] w (iC (fun d'=>Srt.Done key d d' p y) b off e pre post w):=by
 subst hn;have HC:=G hC;have HS1:=G hs1;have HS2:=G hs2;have IH:=G ih;clear hC hs1 hs2 ih;have e1:((m:Int)-(p:Int)==1)=false:=by simp;omega
 have e2:((y:Int)-(m:Int)==1)=false:=by simp;omega
 obtain⟨M,hM,hMn,hM1,hM2⟩:∃M:Nat,((p:Int)+(y:Int))/2=(M:Int)/\(p+y)/2=M/\p<M/\M<y:=⟨(p+y)/2,by omega,rfl,by omega,by omega⟩;have hMa:2*M<=p+y:=by omega
 have hMb:p+y<=2*M+1:=by omega
 by_cases hmm:M<m
 ·obtain⟨s0,hz,hz'⟩:∃s0:Nat,(M:Int)+(m:Int)-(y:Int)=(s0:Int)/\s0=M+m-y:=⟨M+m-y,by omega,rfl⟩
  have hdm:decide (M<m)=true:=by simpa using hmm
  go_enter func192,ntmps192;have HMN0:=G hMn;have HZ0:=G hz';clear hMn hz';go_wp2_with fail;clear hM hz;have hMn:=HMN0.out;have hz1:s0+y=M+m:=by have:=HZ0.out;omega
  clear HMN0
  go_loopw [20,21] (fun u v wr=>∃st r:Nat,s0<=st/\st<=r/\r<=M/\u=I J st/\v=I J r/\(∀c,s0<=c->c<st->Srt.kf key d c<=Srt.kf key d (M+m-1-c))/\(∀c,r<=c->c<M->Srt.kf key d (M+m-1-c)<Srt.kf key d c)/\
    Row wr b off e pre post d/\w.grownBy wr (Z b)) (fun u v _=>(intOf v).toNat-(intOf u).toNat)
  case atStart=>exact⟨s0,M,Nat.le_refl _,by omega,Nat.le_refl _,rfl,rfl,fun t h1 h2=>by omega,fun t h1 h2=>by omega,hR,aN _ _⟩
  obtain⟨st,r,hs1,hsr,hs2,rfl,rfl,hyes,hno,hR2,hg2⟩:=hrel;have HYES:=G hyes;have HNO:=G hno;clear hyes hno;by_cases hlt:st<r
  ·obtain⟨h,hh,h1,h2,h3⟩:∃h:Nat,((st:Int)+(r:Int))/2=(h:Int)/\st<=h/\h<r/\h<d.length:=⟨(st+r)/2,by omega,by omega,by omega,by omega⟩
   obtain⟨g,hg0,hgn⟩:∃g:Nat,g=M+m-1-h/\g<d.length:=⟨M+m-1-h,rfl,by omega⟩;obtain⟨x,hx⟩:=eZ (d:=d) (i:=h) h3;obtain⟨z,hz⟩:=eZ (d:=d) (i:=g) hgn;have cx:=hR2.cell hx;have cz:=hR2.cell hz;have HX:=G hx;have HZ:=G hz;have C:=G (fun W hW=>HC.out W hW z x);have i0:(M:Int)+(m:Int)-1-(h:Int)=(g:Int):=by omega
   have i1:IntKind.i64.wrap ((M:Int)+(m:Int)-1-(h:Int))=(g:Int):=by rw[i0];exact IntWalk.i64_in _ (by omega)
   have i1':IntKind.i64.wrap (g:Int)=(g:Int):=IntWalk.i64_in _ (by omega);have HG:=G hg0;have HMN:=G hMn;clear hx hz hg0 hMn;go_wp2_with fail;clear hh;refine wp_region_still_tail 11 (by kernel_rfl) (by kernel_rfl) ?_;simp only[List.take_succ_cons,List.take_zero,List.drop_succ_cons,List.drop_zero];change wpStill _ _ wr.drew _ _ _;repeat still_step
   refine wpStill_nil ?_;change wpList _ _ _ _ _ wr.drew;clear i0 i1 i1';go_wp2_with fail;refine(C.out _ (dO hg2)).mono ?_;rintro e w3 ⟨cc,rfl,hcc,hb3⟩;have hR3:=(hR2.drew).below hb3;have hg3:=cA (dO hg2) hb3;clear hR2 hg2 hb3 cx cz;by_cases hkey:key z<key x
   ·have hneg:decide (cc<0)=true:=by simpa using hcc.2 hkey
    clear hcc;go_wp2;go_roundw
    case rel=>
     refine⟨st,h,by omega,by omega,by omega,rfl,rfl,HYES.out,fun t g1 g2=>?_,hR3,hg3⟩;have hgg:=HG.out;have kz:Srt.kf key d (M+m-1-h)=key z:=by rw[<-hgg];exact Srt.kf_some HZ.out
     have kx:=Srt.kf_some (key:=key) HX.out;by_cases et:t<r
     ·have k1:=HS1.out.le (i:=h) (j:=t) (by omega) g1 (by omega)
      have k2:=HS2.out.le (i:=M+m-1-t) (j:=M+m-1-h) (by omega) (by omega) (by omega);omega
     exact HNO.out t (by omega) g2
    simp[intOf];omega
   have hneg:decide (cc<0)=false:=by simpa using fun g=>hkey (hcc.1 g)
   clear hcc;go_wp2;go_roundw
   case rel=>
    refine⟨h+1,r,by omega,by omega,by omega,by go_num,rfl,fun t g1 g2=>?_,HNO.out,hR3,hg3⟩;have hgg:=HG.out;have kz:Srt.kf key d (M+m-1-h)=key z:=by rw[<-hgg];exact Srt.kf_some HZ.out
    have kx:=Srt.kf_some (key:=key) HX.out;by_cases et:st<=t
    ·have k1:=HS1.out.le (i:=t) (j:=h) (by omega) (by omega) (by omega)
     have k2:=HS2.out.le (i:=M+m-1-h) (j:=M+m-1-t) (by omega) (by omega) (by omega);omega
    exact HYES.out t g1 (by omega)
   simp[intOf];omega
  obtain rfl:st=r:=by omega
  have f:=Srt.found_of (key:=key) (d:=d) (a:=p) (m:=m) (b:=y) (st:=st) (s0:=s0) (r0:=M) hpm HS1.out HS2.out (by rw[hMn];exact .inl ⟨hmm,HZ0.out,rfl⟩) hs1 hs2 (by rw[hMn];exact HYES.out) (by rw[hMn];exact HNO.out);obtain⟨E,hE,hE'⟩:∃E:Nat,((M:Int)+(m:Int))-(st:Int)=(E:Int)/\M+m-st=E:=⟨M+m-st,by omega,rfl⟩;have hM':=hMn;by_cases hrr:st<m/\m<E
  ·obtain⟨hr1,hr2⟩:=hrr
   have hEy:E<=y:=by rw[<-hE',<-hMn];exact f.en2
   have C:=G (yS b off d.length c st m E e (.func (.func 123) #[] #[.pointer (Z ⟨B,0,N⟩)]) d pre post wr hR2 rfl hr1 hr2 (by omega) hbig);have F0:=G f;have HMM0:=G hM';have HEE0:=G hE';clear f hM' hE' hMn;go_wp2_with fail
   all_goals
    refine C.out.mono ?_;rintro e W1 ⟨rfl,d1,hrot0,hR1,hg1x⟩;have hg1:=aV hg2 hg1x;have f:=F0.out;have hM':=HMM0.out;have hE':=HEE0.out;have hrot:Srt.Rot d d1 st m ((p+y)/2+m-st):=by rw[hM',hE'];exact hrot0
    clear hrot0 hg1x hR2 hg2 C F0 HMM0 HEE0;obtain⟨q1,q2,q3,q4,q5,q6,q7⟩:=f.halves hy HS1.out HS2.out hrot;rw[hM']at q4 q7;rw[hM',hE']at q5 q6;have Q1:=G q1;have Q2:=G q2;have Q3:=G q3;have Q4:=G q4;have Q5:=G q5;have Q6:=G q6;have Q7:=G q7;have F:=G f;have HMM:=G hM';have HEE:=G hE';have hn1:d1.length=d.length:=q1.1;have HN1:=G hn1;have f1:=f.lo;have f2:=f.hi;have f3:m<=E:=by rw[<-hE',<-hM'];exact f.en
    have f4:E<=y:=by rw[<-hE',<-hM'];exact f.en2
    have f5:st<=M:=by rw[<-hM'];exact f.mid
    clear q1 q2 q3 q4 q5 q6 q7 f hM' hE' hrot hn1;by_cases hll:p<st/\st<M
    ·obtain⟨hl1,hl2⟩:=hll
     have C:=G (IH.out p st M d1 W1 hR1 HN1.out hl1 hl2 (by omega) hbig (HC.out.later hg1) Q3.out Q4.out (by omega));go_wp2_with fail
     all_goals
      refine C.out.mono ?_;rintro e W2 ⟨rfl,d2,hD2,hR2,hg2x⟩;have hg2:=aV hg1 hg2x;have hl:=Srt.left_done Q3.out Q4.out (fun _=>hD2) (fun h=>absurd ⟨hl1,hl2⟩ h) f1 f5;clear hD2 hg2x hR1 hg1;have s1:Srt.SortedOn key d2 M E:=Q5.out.same hl.1 (.inr (Nat.le_refl _));have s2:Srt.SortedOn key d2 E y:=Q6.out.same hl.1 (.inr (by omega));have hn2:d2.length=d.length:=by rw[hl.1.1,HN1.out]
      have HL:=G hl;have S1:=G s1;have S2:=G s2;have HN:=G hn2;clear hl s1 s2 hn2;by_cases hrr:M<E/\E<y
      ·obtain⟨hr1,hr2⟩:=hrr
       have C:=G (IH.out M E y d2 W2 hR2 HN.out hr1 hr2 hy hbig (HC.out.later hg2) S1.out S2.out (by omega));go_wp2_with fail
       all_goals
        refine C.out.mono ?_;rintro e W3 ⟨rfl,d3,hD3,hR3,hg3⟩;go_wp2_with fail;go_end0;exact⟨rfl,d3,Srt.both_done (by omega) (by omega) hy Q1.out Q2.out Q7.out HL.out hD3,hR3,aV hg2 hg3⟩
      have hD3:Srt.Done key d2 d2 M y:=by
       refine Srt.Done.refl_of ?_;by_cases e9:M<E
       ·obtain rfl:E=y:=by omega
        exact S1.out
       obtain rfl:M=E:=by omega
       exact S2.out
      have HD3:=G hD3;have hr0:¬(M<E)\/¬(E<y):=by omega
      clear hD3 hrr;rcases hr0 with hr0|hr0
      all_goals
       go_wp2_with fail
       all_goals
        go_end0;exact⟨rfl,d2,Srt.both_done (by omega) (by omega) hy Q1.out Q2.out Q7.out HL.out HD3.out,hR2,hg2⟩
    have hl0:¬(p<st)\/¬(st<M):=by omega
    have hl:=Srt.left_done (d2:=d1) Q3.out Q4.out (fun h=>absurd h hll) (fun _=>rfl) f1 f5;clear hll;obtain⟨d2,rfl⟩:∃d2,d2=d1:=⟨_,rfl⟩;obtain⟨W2,rfl⟩:∃W2:Wv,W2=W1:=⟨_,rfl⟩;have hR2:=hR1;have hg2:=hg1;clear hR1 hg1;rcases hl0 with hl0|hl0
    all_goals
     have s1:Srt.SortedOn key d2 M E:=Q5.out.same hl.1 (.inr (Nat.le_refl _));have s2:Srt.SortedOn key d2 E y:=Q6.out.same hl.1 (.inr (by omega));have hn2:d2.length=d.length:=by rw[hl.1.1,HN1.out]
     have HL:=G hl;have S1:=G s1;have S2:=G s2;have HN:=G hn2;clear hl s1 s2 hn2;by_cases hrr:M<E/\E<y
     ·obtain⟨hr1,hr2⟩:=hrr
      have C:=G (IH.out M E y d2 W2 hR2 HN.out hr1 hr2 hy hbig (HC.out.later hg2) S1.out S2.out (by omega));go_wp2_with fail
      all_goals
       refine C.out.mono ?_;rintro e W3 ⟨rfl,d3,hD3,hR3,hg3⟩;go_wp2_with fail;go_end0;exact⟨rfl,d3,Srt.both_done (by omega) (by omega) hy Q1.out Q2.out Q7.out HL.out hD3,hR3,aV hg2 hg3⟩
     have hD3:Srt.Done key d2 d2 M y:=by
      refine Srt.Done.refl_of ?_;by_cases e9:M<E
      ·obtain rfl:E=y:=by omega
       exact S1.out
      obtain rfl:M=E:=by omega
      exact S2.out
     have HD3:=G hD3;have hr0:¬(M<E)\/¬(E<y):=by omega
     clear hD3 hrr;rcases hr0 with hr0|hr0
     all_goals
      go_wp2_with fail
      all_goals
       go_end0;exact⟨rfl,d2,Srt.both_done (by omega) (by omega) hy Q1.out Q2.out Q7.out HL.out HD3.out,hR2,hg2⟩
  have hr0:¬(st<m)\/¬(m<E):=by omega
  have hrot:Srt.Rot d d st m ((p+y)/2+m-st):=Srt.rot_triv f.hi f.en (by have:=f.hi;have:=f.en;rw[hM',hE']at *;omega);clear hrr hMn;obtain⟨d1,hd1⟩:∃d1,d1=d:=⟨_,rfl⟩;obtain⟨W1,rfl⟩:∃W1:Wv,W1=wr:=⟨_,rfl⟩;have hR1:=hR2;have hg1:=hg2;rw[<-hd1]at hR1;have hrot1:Srt.Rot d d1 st m ((p+y)/2+m-st):=by rw[hd1];exact hrot
  clear hrot hR2 hg2 hd1;have hrot:=hrot1;clear hrot1;rcases hr0 with hr0|hr0
  all_goals
   obtain⟨q1,q2,q3,q4,q5,q6,q7⟩:=f.halves hy HS1.out HS2.out hrot;rw[hM']at q4 q7;rw[hM',hE']at q5 q6;have Q1:=G q1;have Q2:=G q2;have Q3:=G q3;have Q4:=G q4;have Q5:=G q5;have Q6:=G q6;have Q7:=G q7;have F:=G f;have HMM:=G hM';have HEE:=G hE';have hn1:d1.length=d.length:=q1.1;have HN1:=G hn1;have f1:=f.lo;have f2:=f.hi;have f3:m<=E:=by rw[<-hE',<-hM'];exact f.en
   have f4:E<=y:=by rw[<-hE',<-hM'];exact f.en2
   have f5:st<=M:=by rw[<-hM'];exact f.mid
   clear q1 q2 q3 q4 q5 q6 q7 f hM' hE' hrot hn1;by_cases hll:p<st/\st<M
   ·obtain⟨hl1,hl2⟩:=hll
    have C:=G (IH.out p st M d1 W1 hR1 HN1.out hl1 hl2 (by omega) hbig (HC.out.later hg1) Q3.out Q4.out (by omega));go_wp2_with fail
    all_goals
     refine C.out.mono ?_;rintro e W2 ⟨rfl,d2,hD2,hR2,hg2x⟩;have hg2:=aV hg1 hg2x;have hl:=Srt.left_done Q3.out Q4.out (fun _=>hD2) (fun h=>absurd ⟨hl1,hl2⟩ h) f1 f5;clear hD2 hg2x hR1 hg1;have s1:Srt.SortedOn key d2 M E:=Q5.out.same hl.1 (.inr (Nat.le_refl _));have s2:Srt.SortedOn key d2 E y:=Q6.out.same hl.1 (.inr (by omega));have hn2:d2.length=d.length:=by rw[hl.1.1,HN1.out]
     have HL:=G hl;have S1:=G s1;have S2:=G s2;have HN:=G hn2;clear hl s1 s2 hn2;by_cases hrr:M<E/\E<y
     ·obtain⟨hr1,hr2⟩:=hrr
      have C:=G (IH.out M E y d2 W2 hR2 HN.out hr1 hr2 hy hbig (HC.out.later hg2) S1.out S2.out (by omega));go_wp2_with fail
      all_goals
       refine C.out.mono ?_;rintro e W3 ⟨rfl,d3,hD3,hR3,hg3⟩;go_wp2_with fail;go_end0;exact⟨rfl,d3,Srt.both_done (by omega) (by omega) hy Q1.out Q2.out Q7.out HL.out hD3,hR3,aV hg2 hg3⟩
     have hD3:Srt.Done key d2 d2 M y:=by
      refine Srt.Done.refl_of ?_;by_cases e9:M<E
      ·obtain rfl:E=y:=by omega
       exact S1.out
      obtain rfl:M=E:=by omega
      exact S2.out
     have HD3:=G hD3;have hr0:¬(M<E)\/¬(E<y):=by omega
     clear hD3 hrr;rcases hr0 with hr0|hr0
     all_goals
      go_wp2_with fail
      all_goals
       go_end0;exact⟨rfl,d2,Srt.both_done (by omega) (by omega) hy Q1.out Q2.out Q7.out HL.out HD3.out,hR2,hg2⟩
   have hl0:¬(p<st)\/¬(st<M):=by omega
   have hl:=Srt.left_done (d2:=d1) Q3.out Q4.out (fun h=>absurd h hll) (fun _=>rfl) f1 f5;clear hll;obtain⟨d2,rfl⟩:∃d2,d2=d1:=⟨_,rfl⟩;obtain⟨W2,rfl⟩:∃W2:Wv,W2=W1:=⟨_,rfl⟩;have hR2:=hR1;have hg2:=hg1;clear hR1 hg1;rcases hl0 with hl0|hl0
   all_goals
    have s1:Srt.SortedOn key d2 M E:=Q5.out.same hl.1 (.inr (Nat.le_refl _));have s2:Srt.SortedOn key d2 E y:=Q6.out.same hl.1 (.inr (by omega));have hn2:d2.length=d.length:=by rw[hl.1.1,HN1.out]
    have HL:=G hl;have S1:=G s1;have S2:=G s2;have HN:=G hn2;clear hl s1 s2 hn2;by_cases hrr:M<E/\E<y
    ·obtain⟨hr1,hr2⟩:=hrr
     have C:=G (IH.out M E y d2 W2 hR2 HN.out hr1 hr2 hy hbig (HC.out.later hg2) S1.out S2.out (by omega));go_wp2_with fail
     all_goals
      refine C.out.mono ?_;rintro e W3 ⟨rfl,d3,hD3,hR3,hg3⟩;go_wp2_with fail;go_end0;exact⟨rfl,d3,Srt.both_done (by omega) (by omega) hy Q1.out Q2.out Q7.out HL.out hD3,hR3,aV hg2 hg3⟩
    have hD3:Srt.Done key d2 d2 M y:=by
     refine Srt.Done.refl_of ?_;by_cases e9:M<E
     ·obtain rfl:E=y:=by omega
      exact S1.out
     obtain rfl:M=E:=by omega
     exact S2.out
    have HD3:=G hD3;have hr0:¬(M<E)\/¬(E<y):=by omega
    clear hD3 hrr;rcases hr0 with hr0|hr0
    all_goals
     go_wp2_with fail
     all_goals
      go_end0;exact⟨rfl,d2,Srt.both_done (by omega) (by omega) hy Q1.out Q2.out Q7.out HL.out HD3.out,hR2,hg2⟩
 go_enter func192,ntmps192;have HMN0:=G hMn;clear hMn;go_wp2_with fail;clear hM;have hMn:=HMN0.out;clear HMN0
 go_loopw [20,21] (fun u v wr=>∃st r:Nat,p<=st/\st<=r/\r<=m/\u=I J st/\v=I J r/\(∀c,p<=c->c<st->Srt.kf key d c<=Srt.kf key d (M+m-1-c))/\(∀c,r<=c->c<m->Srt.kf key d (M+m-1-c)<Srt.kf key d c)/\
   Row wr b off e pre post d/\w.grownBy wr (Z b)) (fun u v _=>(intOf v).toNat-(intOf u).toNat)
 case atStart=>exact⟨p,m,Nat.le_refl _,by omega,Nat.le_refl _,rfl,rfl,fun t h1 h2=>by omega,fun t h1 h2=>by omega,hR,aN _ _⟩
 obtain⟨st,r,hs1,hsr,hs2,rfl,rfl,hyes,hno,hR2,hg2⟩:=hrel;have HYES:=G hyes;have HNO:=G hno;clear hyes hno;by_cases hlt:st<r
 ·obtain⟨h,hh,h1,h2,h3⟩:∃h:Nat,((st:Int)+(r:Int))/2=(h:Int)/\st<=h/\h<r/\h<d.length:=⟨(st+r)/2,by omega,by omega,by omega,by omega⟩
  obtain⟨g,hg0,hgn⟩:∃g:Nat,g=M+m-1-h/\g<d.length:=⟨M+m-1-h,rfl,by omega⟩;obtain⟨x,hx⟩:=eZ (d:=d) (i:=h) h3;obtain⟨z,hz⟩:=eZ (d:=d) (i:=g) hgn;have cx:=hR2.cell hx;have cz:=hR2.cell hz;have HX:=G hx;have HZ:=G hz;have C:=G (fun W hW=>HC.out W hW z x);have i0:(M:Int)+(m:Int)-1-(h:Int)=(g:Int):=by omega
  have i1:IntKind.i64.wrap ((M:Int)+(m:Int)-1-(h:Int))=(g:Int):=by rw[i0];exact IntWalk.i64_in _ (by omega)
  have i1':IntKind.i64.wrap (g:Int)=(g:Int):=IntWalk.i64_in _ (by omega);have HG:=G hg0;have HMN:=G hMn;clear hx hz hg0 hMn;go_wp2_with fail;clear hh;refine wp_region_still_tail 11 (by kernel_rfl) (by kernel_rfl) ?_;simp only[List.take_succ_cons,List.take_zero,List.drop_succ_cons,List.drop_zero];change wpStill _ _ wr.drew _ _ _;repeat still_step
  refine wpStill_nil ?_;change wpList _ _ _ _ _ wr.drew;clear i0 i1 i1';go_wp2_with fail;refine(C.out _ (dO hg2)).mono ?_;rintro e w3 ⟨cc,rfl,hcc,hb3⟩;have hR3:=(hR2.drew).below hb3;have hg3:=cA (dO hg2) hb3;clear hR2 hg2 hb3 cx cz;by_cases hkey:key z<key x
  ·have hneg:decide (cc<0)=true:=by simpa using hcc.2 hkey
   clear hcc;go_wp2;go_roundw
   case rel=>
    refine⟨st,h,by omega,by omega,by omega,rfl,rfl,HYES.out,fun t g1 g2=>?_,hR3,hg3⟩;have hgg:=HG.out;have kz:Srt.kf key d (M+m-1-h)=key z:=by rw[<-hgg];exact Srt.kf_some HZ.out
    have kx:=Srt.kf_some (key:=key) HX.out;by_cases et:t<r
    ·have k1:=HS1.out.le (i:=h) (j:=t) (by omega) g1 (by omega)
     have k2:=HS2.out.le (i:=M+m-1-t) (j:=M+m-1-h) (by omega) (by omega) (by omega);omega
    exact HNO.out t (by omega) g2
   simp[intOf];omega
  have hneg:decide (cc<0)=false:=by simpa using fun g=>hkey (hcc.1 g)
  clear hcc;go_wp2;go_roundw
  case rel=>
   refine⟨h+1,r,by omega,by omega,by omega,by go_num,rfl,fun t g1 g2=>?_,HNO.out,hR3,hg3⟩;have hgg:=HG.out;have kz:Srt.kf key d (M+m-1-h)=key z:=by rw[<-hgg];exact Srt.kf_some HZ.out
   have kx:=Srt.kf_some (key:=key) HX.out;by_cases et:st<=t
   ·have k1:=HS1.out.le (i:=t) (j:=h) (by omega) (by omega) (by omega)
    have k2:=HS2.out.le (i:=M+m-1-h) (j:=M+m-1-t) (by omega) (by omega) (by omega);omega
   exact HYES.out t g1 (by omega)
  simp[intOf];omega
 obtain rfl:st=r:=by omega
 have f:=Srt.found_of (key:=key) (d:=d) (a:=p) (m:=m) (b:=y) (st:=st) (s0:=p) (r0:=m) hpm HS1.out HS2.out (by rw[hMn];exact .inr ⟨by omega,rfl,rfl⟩) hs1 hs2 (by rw[hMn];exact HYES.out) (by rw[hMn];exact HNO.out);obtain⟨E,hE,hE'⟩:∃E:Nat,((M:Int)+(m:Int))-(st:Int)=(E:Int)/\M+m-st=E:=⟨M+m-st,by omega,rfl⟩;have hM':=hMn;by_cases hrr:st<m/\m<E
 ·obtain⟨hr1,hr2⟩:=hrr
  have hEy:E<=y:=by rw[<-hE',<-hMn];exact f.en2
  have C:=G (yS b off d.length c st m E e (.func (.func 123) #[] #[.pointer (Z ⟨B,0,N⟩)]) d pre post wr hR2 rfl hr1 hr2 (by omega) hbig);have F0:=G f;have HMM0:=G hM';have HEE0:=G hE';clear f hM' hE' hMn;go_wp2_with fail
  all_goals
   refine C.out.mono ?_;rintro e W1 ⟨rfl,d1,hrot0,hR1,hg1x⟩;have hg1:=aV hg2 hg1x;have f:=F0.out;have hM':=HMM0.out;have hE':=HEE0.out;have hrot:Srt.Rot d d1 st m ((p+y)/2+m-st):=by rw[hM',hE'];exact hrot0
   clear hrot0 hg1x hR2 hg2 C F0 HMM0 HEE0;obtain⟨q1,q2,q3,q4,q5,q6,q7⟩:=f.halves hy HS1.out HS2.out hrot;rw[hM']at q4 q7;rw[hM',hE']at q5 q6;have Q1:=G q1;have Q2:=G q2;have Q3:=G q3;have Q4:=G q4;have Q5:=G q5;have Q6:=G q6;have Q7:=G q7;have F:=G f;have HMM:=G hM';have HEE:=G hE';have hn1:d1.length=d.length:=q1.1;have HN1:=G hn1;have f1:=f.lo;have f2:=f.hi;have f3:m<=E:=by rw[<-hE',<-hM'];exact f.en
   have f4:E<=y:=by rw[<-hE',<-hM'];exact f.en2
   have f5:st<=M:=by rw[<-hM'];exact f.mid
   clear q1 q2 q3 q4 q5 q6 q7 f hM' hE' hrot hn1;by_cases hll:p<st/\st<M
   ·obtain⟨hl1,hl2⟩:=hll
    have C:=G (IH.out p st M d1 W1 hR1 HN1.out hl1 hl2 (by omega) hbig (HC.out.later hg1) Q3.out Q4.out (by omega));go_wp2_with fail
    all_goals
     refine C.out.mono ?_;rintro e W2 ⟨rfl,d2,hD2,hR2,hg2x⟩;have hg2:=aV hg1 hg2x;have hl:=Srt.left_done Q3.out Q4.out (fun _=>hD2) (fun h=>absurd ⟨hl1,hl2⟩ h) f1 f5;clear hD2 hg2x hR1 hg1;have s1:Srt.SortedOn key d2 M E:=Q5.out.same hl.1 (.inr (Nat.le_refl _));have s2:Srt.SortedOn key d2 E y:=Q6.out.same hl.1 (.inr (by omega));have hn2:d2.length=d.length:=by rw[hl.1.1,HN1.out]
     have HL:=G hl;have S1:=G s1;have S2:=G s2;have HN:=G hn2;clear hl s1 s2 hn2;by_cases hrr:M<E/\E<y
     ·obtain⟨hr1,hr2⟩:=hrr
      have C:=G (IH.out M E y d2 W2 hR2 HN.out hr1 hr2 hy hbig (HC.out.later hg2) S1.out S2.out (by omega));go_wp2_with fail
      all_goals
       refine C.out.mono ?_;rintro e W3 ⟨rfl,d3,hD3,hR3,hg3⟩;go_wp2_with fail;go_end0;exact⟨rfl,d3,Srt.both_done (by omega) (by omega) hy Q1.out Q2.out Q7.out HL.out hD3,hR3,aV hg2 hg3⟩
     have hD3:Srt.Done key d2 d2 M y:=by
      refine Srt.Done.refl_of ?_;by_cases e9:M<E
      ·obtain rfl:E=y:=by omega
       exact S1.out
      obtain rfl:M=E:=by omega
      exact S2.out
     have HD3:=G hD3;have hr0:¬(M<E)\/¬(E<y):=by omega
     clear hD3 hrr;rcases hr0 with hr0|hr0
     all_goals
      go_wp2_with fail
      all_goals
       go_end0;exact⟨rfl,d2,Srt.both_done (by omega) (by omega) hy Q1.out Q2.out Q7.out HL.out HD3.out,hR2,hg2⟩
   have hl0:¬(p<st)\/¬(st<M):=by omega
   have hl:=Srt.left_done (d2:=d1) Q3.out Q4.out (fun h=>absurd h hll) (fun _=>rfl) f1 f5;clear hll;obtain⟨d2,rfl⟩:∃d2,d2=d1:=⟨_,rfl⟩;obtain⟨W2,rfl⟩:∃W2:Wv,W2=W1:=⟨_,rfl⟩;have hR2:=hR1;have hg2:=hg1;clear hR1 hg1;rcases hl0 with hl0|hl0
   all_goals
    have s1:Srt.SortedOn key d2 M E:=Q5.out.same hl.1 (.inr (Nat.le_refl _));have s2:Srt.SortedOn key d2 E y:=Q6.out.same hl.1 (.inr (by omega));have hn2:d2.length=d.length:=by rw[hl.1.1,HN1.out]
    have HL:=G hl;have S1:=G s1;have S2:=G s2;have HN:=G hn2;clear hl s1 s2 hn2;by_cases hrr:M<E/\E<y
    ·obtain⟨hr1,hr2⟩:=hrr
     have C:=G (IH.out M E y d2 W2 hR2 HN.out hr1 hr2 hy hbig (HC.out.later hg2) S1.out S2.out (by omega));go_wp2_with fail
     all_goals
      refine C.out.mono ?_;rintro e W3 ⟨rfl,d3,hD3,hR3,hg3⟩;go_wp2_with fail;go_end0;exact⟨rfl,d3,Srt.both_done (by omega) (by omega) hy Q1.out Q2.out Q7.out HL.out hD3,hR3,aV hg2 hg3⟩
    have hD3:Srt.Done key d2 d2 M y:=by
     refine Srt.Done.refl_of ?_;by_cases e9:M<E
     ·obtain rfl:E=y:=by omega
      exact S1.out
     obtain rfl:M=E:=by omega
     exact S2.out
    have HD3:=G hD3;have hr0:¬(M<E)\/¬(E<y):=by omega
    clear hD3 hrr;rcases hr0 with hr0|hr0
    all_goals
     go_wp2_with fail
     all_goals
      go_end0;exact⟨rfl,d2,Srt.both_done (by omega) (by omega) hy Q1.out Q2.out Q7.out HL.out HD3.out,hR2,hg2⟩
 have hr0:¬(st<m)\/¬(m<E):=by omega
 have hrot:Srt.Rot d d st m ((p+y)/2+m-st):=Srt.rot_triv f.hi f.en (by have:=f.hi;have:=f.en;rw[hM',hE']at *;omega);clear hrr hMn;obtain⟨d1,hd1⟩:∃d1,d1=d:=⟨_,rfl⟩;obtain⟨W1,rfl⟩:∃W1:Wv,W1=wr:=⟨_,rfl⟩;have hR1:=hR2;have hg1:=hg2;rw[<-hd1]at hR1;have hrot1:Srt.Rot d d1 st m ((p+y)/2+m-st):=by rw[hd1];exact hrot
 clear hrot hR2 hg2 hd1;have hrot:=hrot1;clear hrot1;rcases hr0 with hr0|hr0
 all_goals
  obtain⟨q1,q2,q3,q4,q5,q6,q7⟩:=f.halves hy HS1.out HS2.out hrot;rw[hM']at q4 q7;rw[hM',hE']at q5 q6;have Q1:=G q1;have Q2:=G q2;have Q3:=G q3;have Q4:=G q4;have Q5:=G q5;have Q6:=G q6;have Q7:=G q7;have F:=G f;have HMM:=G hM';have HEE:=G hE';have hn1:d1.length=d.length:=q1.1;have HN1:=G hn1;have f1:=f.lo;have f2:=f.hi;have f3:m<=E:=by rw[<-hE',<-hM'];exact f.en
  have f4:E<=y:=by rw[<-hE',<-hM'];exact f.en2
  have f5:st<=M:=by rw[<-hM'];exact f.mid
  clear q1 q2 q3 q4 q5 q6 q7 f hM' hE' hrot hn1;by_cases hll:p<st/\st<M
  ·obtain⟨hl1,hl2⟩:=hll
   have C:=G (IH.out p st M d1 W1 hR1 HN1.out hl1 hl2 (by omega) hbig (HC.out.later hg1) Q3.out Q4.out (by omega));go_wp2_with fail
   all_goals
    refine C.out.mono ?_;rintro e W2 ⟨rfl,d2,hD2,hR2,hg2x⟩;have hg2:=aV hg1 hg2x;have hl:=Srt.left_done Q3.out Q4.out (fun _=>hD2) (fun h=>absurd ⟨hl1,hl2⟩ h) f1 f5;clear hD2 hg2x hR1 hg1;have s1:Srt.SortedOn key d2 M E:=Q5.out.same hl.1 (.inr (Nat.le_refl _));have s2:Srt.SortedOn key d2 E y:=Q6.out.same hl.1 (.inr (by omega));have hn2:d2.length=d.length:=by rw[hl.1.1,HN1.out]
    have HL:=G hl;have S1:=G s1;have S2:=G s2;have HN:=G hn2;clear hl s1 s2 hn2;by_cases hrr:M<E/\E<y
    ·obtain⟨hr1,hr2⟩:=hrr
     have C:=G (IH.out M E y d2 W2 hR2 HN.out hr1 hr2 hy hbig (HC.out.later hg2) S1.out S2.out (by omega));go_wp2_with fail
     all_goals
      refine C.out.mono ?_;rintro e W3 ⟨rfl,d3,hD3,hR3,hg3⟩;go_wp2_with fail;go_end0;exact⟨rfl,d3,Srt.both_done (by omega) (by omega) hy Q1.out Q2.out Q7.out HL.out hD3,hR3,aV hg2 hg3⟩
    have hD3:Srt.Done key d2 d2 M y:=by
     refine Srt.Done.refl_of ?_;by_cases e9:M<E
     ·obtain rfl:E=y:=by omega
      exact S1.out
     obtain rfl:M=E:=by omega
     exact S2.out
    have HD3:=G hD3;have hr0:¬(M<E)\/¬(E<y):=by omega
    clear hD3 hrr;rcases hr0 with hr0|hr0
    all_goals
     go_wp2_with fail
     all_goals
      go_end0;exact⟨rfl,d2,Srt.both_done (by omega) (by omega) hy Q1.out Q2.out Q7.out HL.out HD3.out,hR2,hg2⟩
  have hl0:¬(p<st)\/¬(st<M):=by omega
  have hl:=Srt.left_done (d2:=d1) Q3.out Q4.out (fun h=>absurd h hll) (fun _=>rfl) f1 f5;clear hll;obtain⟨d2,rfl⟩:∃d2,d2=d1:=⟨_,rfl⟩;obtain⟨W2,rfl⟩:∃W2:Wv,W2=W1:=⟨_,rfl⟩;have hR2:=hR1;have hg2:=hg1;clear hR1 hg1;rcases hl0 with hl0|hl0
  all_goals
   have s1:Srt.SortedOn key d2 M E:=Q5.out.same hl.1 (.inr (Nat.le_refl _));have s2:Srt.SortedOn key d2 E y:=Q6.out.same hl.1 (.inr (by omega));have hn2:d2.length=d.length:=by rw[hl.1.1,HN1.out]
   have HL:=G hl;have S1:=G s1;have S2:=G s2;have HN:=G hn2;clear hl s1 s2 hn2;by_cases hrr:M<E/\E<y
   ·obtain⟨hr1,hr2⟩:=hrr
    have C:=G (IH.out M E y d2 W2 hR2 HN.out hr1 hr2 hy hbig (HC.out.later hg2) S1.out S2.out (by omega));go_wp2_with fail
    all_goals
     refine C.out.mono ?_;rintro e W3 ⟨rfl,d3,hD3,hR3,hg3⟩;go_wp2_with fail;go_end0;exact⟨rfl,d3,Srt.both_done (by omega) (by omega) hy Q1.out Q2.out Q7.out HL.out hD3,hR3,aV hg2 hg3⟩
   have hD3:Srt.Done key d2 d2 M y:=by
    refine Srt.Done.refl_of ?_;by_cases e9:M<E
    ·obtain rfl:E=y:=by omega
     exact S1.out
    obtain rfl:M=E:=by omega
    exact S2.out
   have HD3:=G hD3;have hr0:¬(M<E)\/¬(E<y):=by omega
   clear hD3 hrr;rcases hr0 with hr0|hr0
   all_goals
    go_wp2_with fail
    all_goals
     go_end0;exact⟨rfl,d2,Srt.both_done (by omega) (by omega) hy Q1.out Q2.out Q7.out HL.out HD3.out,hR2,hg2⟩
theorem zG(b B off n c:Nat)(e:TypeId)(key:Int->Int)(pre post:Lv)(f:Nat):∀(p m y:Nat)(d:Li)(w:Wv),y-p<=f->Row w b off e pre post d->d.length=n->p<m->m<y->y<=n->n<=1099511627776->gI b B w key->
  Srt.SortedOn key d p m->Srt.SortedOn key d m y->
  Calls prog 192 #[H (Z ⟨b,off,N⟩) n c,I J p,I J m,I J y,(.func (.func 123) #[] #[.pointer (Z ⟨B,0,N⟩)])] w (iC (fun d'=>Srt.Done key d d' p y) b off e pre post w):=by
 induction f with
 |zero=>intro p m y d w hf _ _ h1 h2;omega
 |succ f ih=>
  intro p m y d w hf hR hn hpm hmy hy hbig hC hs1 hs2;by_cases h1:m=p+1
  ·subst h1
   have:=VR b B off n c p y e key d pre post w hR hn hmy hy hbig hC hs2;rw[show((p+1:Nat):Int)=(p:Int)+1 by omega];exact this
  by_cases h2:y=m+1
  ·subst h2
   have:=VS b B off n c p m e key d pre post w hR hn (by omega) hy hbig hC hs1;rw[show((m+1:Nat):Int)=(m:Int)+1 by omega];exact this
  exact VT b B off n c p m y e key d pre post w (fun p' m' y' d' w' g1 g2 g3 g4 g5 g6 g7 g8 g9 g10=>ih p' m' y' d' w' (by omega) g1 g2 g3 g4 g5 g6 g7 g8 g9) hR hn hpm hmy hy hbig hC hs1 hs2 h1 h2
theorem VK(b B off n c:Nat)(e:TypeId)(key:Int->Int)(d:Li)(pre post:Lv)(w:Wv)(hR:Row w b off e pre post d)(hn:d.length=n)(hbig:n<=1099511627776)(hC:gI b B w key):
  Calls prog 167 #[H (Z ⟨b,off,N⟩) n c,I J n,.func (.func 123) #[] #[.pointer (Z ⟨B,0,N⟩)]] w
   (iC (fun d'=>Srt.Done key d d' 0 n) b off e pre post w):=by
 subst hn;have HC:=G hC;clear hC;go_enter func167,ntmps167;go_wp2
 go_loopw [7,8] (fun u v wr=>∃(q a:Nat)(d1:Li),a=q*20/\a<=d.length/\u=I J a/\v=I J ((a:Int)+20)/\Srt.Same d d1 0 d.length/\Srt.St key d d1/\Srt.Pf key d1 20 q/\Row wr b off e pre post d1/\w.grownBy wr (Z b))
  (fun u _ _=>d.length-(intOf u).toNat)
 case atStart=>exact⟨0,0,d,rfl,Nat.zero_le _,rfl,rfl,Srt.Same.refl _ _ _,Srt.St.refl _,Srt.Pf.zero,hR,aN _ _⟩
 obtain⟨q,a,d1,haq,han,rfl,rfl,hsame,hst,hpf,hR1,hg⟩:=hrel;have HQ:=G haq;have HA:=G hsame;have HT:=G hst;have HP:=G hpf;clear haq hsame hst hpf;by_cases hlt:a+20<=d.length
 ·have C:=G (wJ b B off d.length c a (a+20) e key d1 pre post wr hR1 HA.out.1 (by omega) hlt hbig (HC.out.later hg))
  rw[show((a+20:Nat):Int)=(a:Int)+20 by omega]at C;go_wp2_with fail;refine C.out.mono ?_;rintro e W1 ⟨rfl,d2,hD,hR2,hg2⟩;go_wp2_with fail;go_roundw
  case rel=>
   refine⟨q+1,a+20,d2,by rw[HQ.out];omega,hlt,by go_num,by go_num,HA.out.trans (hD.1.mono (Nat.zero_le _) hlt),HT.out.trans hD.2.1,?_,hR2,aV hg hg2⟩;have:=HQ.out;subst this;exact HP.out.succ hD.1 hD.2.2
  simp[intOf];omega
 have C:=G (wJ b B off d.length c a d.length e key d1 pre post wr hR1 HA.out.1 han (Nat.le_refl _) hbig (HC.out.later hg));go_wp2_with fail;refine C.out.mono ?_;rintro e W1 ⟨rfl,d2,hD,hR2,hg2⟩;have hB0:Srt.Bl key d2 20 0 d.length:=by
  have:=HQ.out;subst this;exact Srt.Bl.of_pf HP.out han (by omega) hD.1 hD.2.2
 have HA2:=G (HA.out.trans (hD.1.mono (Nat.zero_le _) (Nat.le_refl _)));have HT2:=G (HT.out.trans hD.2.1);have HB:=G hB0;have hg3:=aV hg hg2;clear hB0 hD hg hg2 HA HT HP HQ hR1 C;go_wp2_with fail;go_loopw [6] (fun u wr=>∃(bs:Nat)(d3:Li),20<=bs/\bs<=2199023255552/\u=I J bs/\Srt.Same d d3 0 d.length/\Srt.St key d d3/\Srt.Bl key d3 bs 0 d.length/\Row wr b off e pre post d3/\w.grownBy wr (Z b)) (fun u _=>d.length-(intOf u).toNat)
 case atStart=>exact⟨20,d2,Nat.le_refl _,by omega,rfl,HA2.out,HT2.out,HB.out,hR2,hg3⟩
 obtain⟨bs,d3,hbs,hbs2,rfl,hsame,hst,hbl,hR3,hg4⟩:=hrel;have HA3:=G hsame;have HT3:=G hst;have HB3:=G hbl;clear hsame hst hbl HA2 HT2 HB hR2 hg3;by_cases hlt2:bs<d.length
 ·obtain⟨wo,rfl⟩:∃wo:Wv,wo=wr:=⟨_,rfl⟩
  go_wp2_with fail
  go_loopw [7,8] (fun u v wr=>∃(q a:Nat)(d4:Li),a=q*(2*bs)/\a<=d.length/\u=I J a/\v=I J ((a:Int)+2*(bs:Int))/\Srt.Same d d4 0 d.length/\Srt.St key d d4/\Srt.Pf key d4 (2*bs) q/\Srt.Bl key d4 bs a d.length/\
    Row wr b off e pre post d4/\w.grownBy wr (Z b)) (fun u _ _=>d.length-(intOf u).toNat)
  case atStart=>exact⟨0,0,d3,by simp,Nat.zero_le _,rfl,by go_num,HA3.out,HT3.out,Srt.Pf.zero,HB3.out,hR3,hg4⟩
  obtain⟨q,a,d4,haq,han,rfl,rfl,hsame,hst,hpf,hbl,hR4,hg5⟩:=hrel;have HQ:=G haq;have HA:=G hsame;have HT:=G hst;have HP:=G hpf;have HB:=G hbl;clear haq hsame hst hpf hbl HA3 HT3 HB3 hR3 hg4;have s1:Srt.SortedOn key d4 a (min (a+bs) d.length):=HB.out.first
  have s2:Srt.SortedOn key d4 (a+bs) (min (a+bs+bs) d.length):=HB.out.next.first
  have S1:=G s1;have S2:=G s2;clear s1 s2;by_cases hlt3:a+2*bs<=d.length
  ·have C:=G (zG b B off d.length c e key pre post _ a (a+bs) (a+2*bs) d4 wr (Nat.le_refl _) hR4 HA.out.1 (by omega) (by omega) hlt3 hbig (HC.out.later hg5)
    (S1.out.sub (Nat.le_refl _) (by omega)) (S2.out.sub (Nat.le_refl _) (by omega)))
   rw[show((a+bs:Nat):Int)=(a:Int)+(bs:Int) by omega,show((a+2*bs:Nat):Int)=(a:Int)+2*(bs:Int) by omega]at C;go_wp2_with fail;refine C.out.mono ?_;rintro e W4 ⟨rfl,d5,hD,hR5,hg6⟩;go_wp2_with fail;go_roundw
   case rel=>
    refine⟨q+1,a+2*bs,d5,by rw[HQ.out,Nat.add_mul,Nat.one_mul],hlt3,by go_num,by go_num,HA.out.trans (hD.1.mono (Nat.zero_le _) hlt3),HT.out.trans hD.2.1,?_,?_,hR5,aV hg5 hg6⟩
    ·have:=HQ.out
     subst this;exact HP.out.succ hD.1 hD.2.2
    have:=HB.out.next.next;rw[show a+bs+bs=a+2*bs by omega]at this;exact this.same hD.1 (Nat.le_refl _)
   simp[intOf];omega
  by_cases hlt4:a+bs<d.length
  ·have C:=G (zG b B off d.length c e key pre post _ a (a+bs) d.length d4 wr (Nat.le_refl _) hR4 HA.out.1 (by omega) hlt4 (Nat.le_refl _) hbig (HC.out.later hg5)
    (S1.out.sub (Nat.le_refl _) (by omega)) (S2.out.sub (Nat.le_refl _) (by omega)))
   rw[show((a+bs:Nat):Int)=(a:Int)+(bs:Int) by omega]at C;go_wp2_with fail;refine C.out.mono ?_;rintro e W4 ⟨rfl,d5,hD,hR5,hg6⟩;go_wp2_with fail;go_roundw
   case rel=>
    refine⟨bs*2,d5,by omega,by omega,by go_num,HA.out.trans (hD.1.mono (Nat.zero_le _) (Nat.le_refl _)),HT.out.trans hD.2.1,?_,hR5,aV hg5 hg6⟩;have:=HQ.out;subst this;rw[Nat.mul_comm bs 2];exact Srt.Bl.of_pf HP.out han (by omega) hD.1 hD.2.2
   simp[intOf];omega
  go_wp2_with fail;go_roundw
  case rel=>
   refine⟨bs*2,d4,by omega,by omega,by go_num,HA.out,HT.out,?_,hR4,hg5⟩;have:=HQ.out;subst this;rw[Nat.mul_comm bs 2];exact Srt.Bl.of_pf HP.out han (by omega) (Srt.Same.refl _ _ _) (S1.out.sub (Nat.le_refl _) (by omega))
  simp[intOf];omega
 go_wp2_with fail;go_end0;exact⟨rfl,d3,⟨HA3.out,HT3.out,HB3.out.all (by omega)⟩,hR3,hg4⟩
theorem BT(b B off n c:Nat)(e:TypeId)(key:Int->Int)(d:Li)(pre post:Lv)(w:Wv)(hR:Row w b off e pre post d)(hn:d.length=n)(hbig:n<=1099511627776)(hC:gI b B w key):
  Calls prog 122 #[H (Z ⟨b,off,N⟩) n c,.func (.func 123) #[] #[.pointer (Z ⟨B,0,N⟩)]] w
   (iC (fun d'=>Srt.Done key d d' 0 n) b off e pre post w):=by
 have C:=G (VK b B off n c e key d pre post w hR hn hbig hC);clear hR hn hC;go_enter func122,ntmps122;go_wp2_with fail;refine C.out.mono ?_;rintro e W4 ⟨rfl,d5,hD,hR5,hg6⟩;go_wp2_with fail;go_end0;exact⟨rfl,d5,hD,hR5,hg6⟩
theorem VE(B:Nat)(A':Oa)(ns ks:Nat)(ss:List Spn)(x y:Int)(W:Wv)(hc:W.cell? ⟨B,0,N⟩=Z (H A' ns ks))(hS:bD W A' ss)(hns:ss.length=ns)(hb2:ns<=1099511627776)(hasc:Asc ss):
  Calls prog 123 #[I J x,I J y,.pointer (Z ⟨B,0,N⟩)] W (tS (cls ss x<cls ss y) W):=by
 have HA:=G hasc;clear hasc;subst hns;have hlt:B<W.heap.size:=World.block_lt_of_cell? W _ hc;have hSd:bD W.drew A' ss:=hS;go_enter func123,ntmps123;go_wp2
 go_region_with (first
  |(go_at_call 124;(with_reducible refine(kV _ _ _).mono ?_);rintro e w' ⟨rfl,rfl⟩)
  |(go_at_call 125;(with_reducible refine(qQ A' ss.length ks ss _ _ hS1 rfl hb2 HA.out).mono ?_);rintro e w2 ⟨rfl,hb2'⟩;clear hS1)
  | (go_at_call 125;(with_reducible refine(qQ A' ss.length ks ss _ _ hSd rfl hb2 HA.out).mono ?_);rintro e w1 ⟨rfl,hb1⟩;have hc1:w1.cell? ⟨B,0,N⟩=Z (H A' ss.length ks):=(hb1.cell (p:=⟨B,0,N⟩) hlt).trans hc;have hS1:bD w1 A' ss:=bD.below (w:=W.drew) hSd hb1))
 all_goals
  go_wp2;go_ret;refine⟨_,rfl,?_,((Below.drew (Below.refl _ W)).trans hb1).trans (hb2'.mono hb1.size)⟩;unfold cW;split
  ·simp[*]
  split<;>simp[*]
theorem GD{b B:Nat}{A':Oa}{ns ks:Nat}{ss:List Spn}{w:Wv}(hc:w.cell? ⟨B,0,N⟩=Z (H A' ns ks))(hS:bD w A' ss)(hns:ss.length=ns)(hb2:ns<=1099511627776)(hasc:Asc ss)
  (hB:B≠b) (hA:ss≠[]->∀o,A'≠Z ⟨b,o,N⟩):gI b B w (cls ss):=by
 intro W hg x y;have hcell:∀p:Addr,p.block<w.heap.size->p.block≠b->W.cell? p=w.cell? p:=fun p h1 h2=>World.cell?_of_block (w:=w) (hg.block p.block h1 (fun e=>h2 (by injection e)))
 refine VE B A' ns ks ss x y W ?_ ?_ hns hb2 hasc
 ·rw[hcell _ (World.block_lt_of_cell? w _ hc) hB];exact hc
 intro hne;obtain⟨b',o',rfl,hcs⟩:=hS hne;refine⟨b',o',rfl,fun j u hu=>?_⟩;have h1:=hcs j u hu;rw[hcell _ (World.block_lt_of_cell? w _ h1) (by rintro rfl;exact hA (by rintro rfl;exact hne rfl) o' rfl)];exact h1
end
section
open Go.RowKit Go.Shelf
attribute [local go_sem] Oper.semAt_some
theorem sO{w:Wv}{base:Nat}{e:TypeId}{A:Oa}{n c:Nat}{d:Li}(h:w.ownsRow base e 1 (H A n c) n (d.map (Value.int .i64)))(hn:0<n):
  ∃g post,A=Z ⟨g,0,N⟩/\base<=g/\Row w g 0 e [] post d/\d.length=n/\n+post.length=c/\c<=maxLen:=by
 obtain⟨h1,h2⟩:=h;rcases h2 with⟨hv,rfl⟩|⟨g,cap,cur,hv,hb,hg,hnc,hcm,hcur,htake⟩
 ·omega
 injection hv with hA _ hc;subst hA;subst hc;simp only[Nat.mul_one,List.length_map]at *;refine⟨g,cur.toList.drop n,rfl,hb,⟨rfl,?_⟩,h1,by simp;omega,hcm⟩;unfold Blk;rw[List.nil_append,<-htake,List.take_append_drop];exact hg
theorem yT{w:Wv}{base g n c:Nat}{e:TypeId}{post:Lv}{d:Li}(h:Row w g 0 e [] post d)(hb:base<=g)(hn:d.length=n)(hc:n+post.length=c)(hcm:c<=maxLen):
  w.ownsRow base e 1 (H (Z ⟨g,0,N⟩) n c) n (d.map (Value.int .i64)):=by
 refine⟨by simp[hn],.inr ⟨g,c,_,rfl,hb,h.2,by omega,hcm,by simp;omega,?_⟩⟩;simp[<-hn]
theorem Row.cut{w:Wv}{g:Nat}{e:TypeId}{post:Lv}{d:Li}(h:Row w g 0 e [] post d){lo hi:Nat}(h1:lo<=hi)(h2:hi<=d.length):
  Row w g lo e ((d.take lo).map (Value.int .i64)) ((d.drop hi).map (Value.int .i64)++post) ((d.drop lo).take (hi-lo)):=by
 refine⟨by simp;omega,?_⟩;have:=h.2;unfold Blk at this|-;rw[this];congr 2;have hp:=Srt.parts d lo lo hi (Nat.le_refl _) h1;simp only[Nat.sub_self,List.take_zero,List.nil_append]at hp;rw[List.nil_append];conv=>lhs;rw[hp]
 simp
theorem Row.uncut{w:Wv}{g lo:Nat}{e:TypeId}{post:Lv}{p s q:Li}(h:Row w g lo e (p.map (Value.int .i64)) (q.map (Value.int .i64)++post) s):Row w g 0 e [] post (p++s++q):=by
 refine⟨rfl,?_⟩;have:=h.2;unfold Blk at this|-;rw[this];simp
theorem SU(cl:Int->Int)(l:Li)(i:Nat)(s:Option Nat)(hs:∀x,s=Z x->x<i):∀r∈rns cl l i s,r.1<r.2/\r.2<=i+l.length:=by
 induction l generalizing i s with
 |nil=>
  cases s with
  |none=>intro r hr;cases hr
  |some s=>intro r hr;simp only[rns,List.mem_singleton]at hr;subst hr;have:=hs s rfl;simp;omega
 |cons c t ih=>
  have h1:=ih (i+1) N (fun _ h=>by cases h);have h2:=ih (i+1) (Z i) (fun x h=>by cases h;omega);cases s with
  |none=>
   intro r hr;simp only[rns]at hr;simp only[List.length_cons];split at hr
   ·have:=h1 r hr;omega
   have:=h2 r hr;omega
  |some s=>
   have hs':=hs s rfl;have h3:=ih (i+1) (Z s) (fun x h=>by cases h;omega);intro r hr;simp only[rns]at hr;simp only[List.length_cons];split at hr
   ·simp only[List.mem_cons]at hr
    rcases hr with rfl|hr
    ·simp;omega
    have:=h1 r hr;omega
   have:=h3 r hr;omega
abbrev RgN(n:Nat):={ x:Nat×Nat // x.1<x.2/\x.2<=n }
theorem SJ{n:Nat}(l:List (Nat×Nat))(h:∀r∈l,r.1<r.2/\r.2<=n):∃all:List (RgN n),all.map (fun x=>x.1)=l:=by
 induction l with
 |nil=>exact⟨[],rfl⟩
 |cons x l ih=>
  obtain⟨all,ha⟩:=ih fun r hr=>h r (List.mem_cons_of_mem _ hr)
  exact⟨⟨x,h x (List.mem_cons_self ..)⟩::all,by rw[List.map_cons,ha]⟩
theorem uR{W W':Wv}{row:Option Nat}(hg:W.grownBy W' row)(hr:∀r,row=Z r->∃o:Obj,W.heap[r]?=Z o/\o.isCells=false){p:Addr}{v:Value}(h:W.cell? p=Z v):W'.cell? p=Z v:=by
 have hlt:=World.block_lt_of_cell? W p h;refine(World.cell?_of_block (w:=W) (hg.block p.block hlt fun e=>?_)).trans h;obtain⟨o,ho,hc⟩:=hr p.block e.symm;unfold World.cell? at h;rw[ho]at h;cases o with
 |cells c t f=>cases hc
 |_=>simp at h
theorem Sl.grown{W W':Wv}{row:Option Nat}{A:Oa}{cs:Lv}(h:Sl W A cs)(hg:W.grownBy W' row)(hr:∀r,row=Z r->∃o:Obj,W.heap[r]?=Z o/\o.isCells=false):Sl W' A cs:=by
 intro hne;obtain⟨b,o,rfl,hc⟩:=h hne;exact⟨b,o,rfl,fun j u hu=>uR hg hr (hc j u hu)⟩
structure gK(key:Int->Int)(text:Li)(base Bo Bl:Nat)(A:Oa)(n c:Nat)(A1:Oa)(n1 k1:Nat)(ts:List Spn)(w:Wv)(pre:List (Nat×Nat))(W:Wv):Prop where
 box:Boxed W Bo 33 (H A n c)
 row:∃d,W.ownsRow base 3 1 (H A n c) n (d.map (Value.int .i64))/\Srt.Stp key text pre d
 l:W.cell? ⟨Bl,0,N⟩=Z (H A1 n1 k1)
 sp:bD W A1 ts
 bel:By w W
theorem gK.own{key:Int->Int}{text:Li}{base Bo Bl:Nat}{A:Oa}{n c:Nat}{A1:Oa}{n1 k1:Nat}{ts:List Spn}{w:Wv}{β:Type}(f:β->List (Nat×Nat)){B:Nat}(hB:w.heap.size<=B):
  OwnFrom B (fun s W=>gK key text base Bo Bl A n c A1 n1 k1 ts w (f s) W):=by
 intro s X Y row h hg hr;have hr':∀r,row=Z r->∃o:Obj,X.heap[r]?=Z o/\o.isCells=false:=fun r e=>(hr r e).2
 refine⟨h.box.kept hg (fun e'=>?_),?_,uR hg hr' h.l,Sl.grown h.sp hg hr',?_⟩
 ·obtain⟨o,ho,hc⟩:=hr' Bo e'.symm
  rw[show X.heap[Bo]?=_ from h.box]at ho;cases ho;cases hc
 ·obtain⟨d,hd,hs⟩:=h.row
  refine⟨d,hd.kept hg ?_,hs⟩;rcases hd.2 with⟨hv,_⟩|⟨g,cap,cur,hv,_,hgb,_⟩
  ·rw[hv];exact .inl rfl
  rw[hv];refine .inr fun e'=>?_
  obtain⟨o,ho,hc⟩:=hr' g (by simpa[Value.ownBlock]using e'.symm);rw[hgb]at ho;cases ho;cases hc
 exact h.bel.grown hg h.bel.size (fun k e=>Nat.le_trans hB (hr k e).1)
theorem gK.alloc{key:Int->Int}{text:Li}{base Bo Bl:Nat}{A:Oa}{n c:Nat}{A1:Oa}{n1 k1:Nat}{ts:List Spn}{w W:Wv}{pre:List (Nat×Nat)}(h:gK key text base Bo Bl A n c A1 n1 k1 ts w pre W)(o:Obj):gK key text base Bo Bl A n c A1 n1 k1 ts w pre (W.alloc o):=
 OwnFrom.alloc (gK.own (fun s:List (Nat×Nat)=>s) (B:=w.heap.size) (Nat.le_refl _)) (s:=pre) o h
end
section
open Go.RowKit Go.Shelf
attribute [local go_sem] Oper.semAt_some
theorem Sl.not_box{W:Wv}{A:Oa}{cs:Lv}{B:Nat}{t:TypeId}{v:Value}(h:Sl W A cs)(hb:Boxed W B t v)(hv:∀k i,v≠.int k i){x:Value}{r:Lv}(hcs:cs=x::r){k:IntKind}{i:Int}(hx:x=.int k i):∀b o,A=Z ⟨b,o,N⟩->b≠B:=by
 rintro b o rfl rfl;subst hcs;subst hx;obtain⟨b',o',hA,hc⟩:=h (by simp);injection hA with hA;injection hA with h1 h2;subst h1;subst h2;have:=hc 0 _ rfl;rw[cell_of_row W b _ _ _ (0,0) hb]at this;simp at this;cases o with
 |zero=>simp at this;exact hv _ _ this
 |succ o=>simp at this
theorem bD.not_box{W:Wv}{A:Oa}{ts:List Spn}{B:Nat}{t:TypeId}{v:Value}(h:bD W A ts)(hb:Boxed W B t v)(hv:∀k i,v≠.int k i)(hne:ts≠[]):∀b o,A=Z ⟨b,o,N⟩->b≠B:=by
 cases ts with
 |nil=>exact absurd rfl hne
 |cons s r=>exact Sl.not_box (cs:=fR (s::r)) h hb hv rfl rfl
theorem Sl.set_box{W:Wv}{A:Oa}{cs:Lv}{B:Nat}(h:Sl W A cs)(hne:cs≠[]->∀b o,A=Z ⟨b,o,N⟩->b≠B)(v:Value):Sl (W.setCell ⟨B,0,N⟩ v) A cs:=by
 intro hc;obtain⟨b,o,rfl,h1⟩:=h hc;refine⟨b,o,rfl,fun j u hu=>?_⟩;have:b≠B:=hne hc b o rfl;rw[<-h1 j u hu];exact World.cell?_of_block (w:=W) (Below.heap_setCell _ _ _ b (by rintro rfl;exact this rfl))
theorem DT{n:Nat}{w W:Wv}(h:Below n w W){B:Nat}(hB:n<=B)(v:Value):Below n w (W.setCell ⟨B,0,N⟩ v):=
 ⟨h.os,h.tape,h.output,by have:=h.size;simpa[World.setCell]using this,fun k hk=>(Below.heap_setCell _ _ _ k (fun e=>by have:k=B:=(by first|exact e|exact e.symm);omega)).trans (h.block k hk)⟩
theorem gU.mono{n n' bo:Nat}{A:Oa}(h:gU n bo A)(hn:n<=n'):gU n' bo A:=fun b o e=>⟨Nat.lt_of_lt_of_le (h b o e).1 hn,(h b o e).2⟩
theorem QM{w:Wv}{base top:Nat}{e:TypeId}{A:Oa}{n c:Nat}{xs:Lv}(h:w.ownsRow base e 1 (H A n c) n xs)(hb:base<=top):∃bo,base<=bo/\(bo<w.heap.size\/bo=top)/\∀g o,A=Z ⟨g,o,N⟩->g=bo:=by
 rcases h.2 with⟨hv,_⟩|⟨g,cap,cur,hv,hg,hgb,_⟩
 ·injection hv with hA
  exact⟨top,hb,.inr rfl,fun g o e=>by rw[hA]at e;cases e⟩
 injection hv with hA;exact⟨g,hg,.inl (Array.getElem?_eq_some_iff.1 hgb).1,fun g' o e=>by rw[hA]at e;injection e with e;injection e with e;exact e.symm⟩
theorem MQ{W W':Wv}{b:Nat}{c:Array Value}{t:TypeId}{f:Nat×Nat}(hg:W.grownBy W' (Z b))(hb:W.heap[b]?=Z (.cells c t f)):KeepsOthers W W':=
 ⟨hg.size,fun k o hk ho=>(hg.block k (Array.getElem?_eq_some_iff.1 hk).1 (fun e=>by injection e with e;subst e;rw[hb]at hk;cases hk;cases ho)).trans hk⟩
theorem gZ{w:Wv}{base b:Nat}{e:TypeId}{size n:Nat}{v:Value}{xs:Lv}(h:w.ownsRow base e size v n xs)(hb:b<=base):w.ownsRow b e size v n xs:=by
 refine⟨h.1,?_⟩;rcases h.2 with h2|⟨g,cap,cur,hv,h1,rest⟩
 ·exact .inl h2
 exact .inr ⟨g,cap,cur,hv,Nat.le_trans hb h1,rest⟩
theorem BX(A':Oa)(ns ks:Nat)(ss ts:List Spn)(A:Oa)(nt kt:Nat)(text:Li)(w:Wv)(hS:bD w A' ss)(hT:aB w A text)
  (hnt:text.length=nt) (hns:ss.length=ns) (hb1:nt<=1048576) (hb2:ns<=1099511627776) (hL:cK w) (hts:us ss=ts) :
  Calls prog 64 #[H A' ns ks,H A nt kt] w (fun e w'=>∃A1 c d,e=.returned (H A1 nt c)/\nt<=c/\w'.ownsRow w.heap.size 3 1 (H A1 nt c) nt (d.map (Value.int .i64))/\Srt.Stp (cls ts) text (rns (cls ts) text 0 N) d/\By w w'):=by
 have hle:=AD ss;have U:=G (fun W hb(hL:cK W)=>AE A' ns ks ss W (bD.below (w:=w) (w':=W) hS hb) hns hb2 hL);have hasc:=G (AC ss);rw[hts]at hle hasc U;have HT:=G hT;have HL:=G hL;clear hT hS hL hts;rw[hns]at hle;refine(callsIn_wide (n:=6)).1 ?_;refine callsIn_of_wp_marks func64 rfl trivial ?_ rfl;simp only[ntmps64,List.size_toArray,List.length_cons,List.length_nil,Nat.reduceAdd,Nat.reduceSub,Array.replicate_succ,Array.replicate_zero,List.push_toArray,List.append_toArray,List.nil_append,List.cons_append];gi_wp2_with fail;refine⟨trivial,(callsIn_wide.2 (U.out _ ((Below.refl _ w).alloc (Nat.le_refl _) _) (HL.out.below ((Below.refl _ w).alloc (Nat.le_refl _) _)))).mono ?_⟩;rintro e w1 ⟨A1,k1,rfl,hA1,hbw1⟩;have bL:Boxed w1 w.heap.size 22 (H A' ns ks):=(hbw1.block w.heap.size (by simp)).trans (Boxed.new w 22 (H A' ns ks));have hB1:By w w1:=((Below.refl _ w).alloc (Nat.le_refl _) _).trans (hbw1.mono (by simp));have cL:=bL.cell;have fL:=bL.frozen;have HA1:=G hA1;clear hbw1 hA1;gi_wp2_with fail;have bL2:=bL.set (H A1 ts.length k1);have hB2:=DT hB1 (Nat.le_refl _) (H A1 ts.length k1);have hnb:ts≠[]->∀b o,A1=Z ⟨b,o,N⟩->b≠w.heap.size:=fun hne=>bD.not_box HA1.out bL (by rintro k i h;cases h) hne
 have hA2:bD (w1.setCell ⟨w.heap.size,0,N⟩ (H A1 ts.length k1)) A1 ts:=Sl.set_box HA1.out (fun h=>hnb (by rintro rfl;exact h rfl)) _;have HNB:=G hnb;clear HA1 hnb bL cL fL hB1;obtain⟨w2,hw2⟩:∃w2,w1.setCell ⟨w.heap.size,0,N⟩ (H A1 ts.length k1)=w2:=⟨_,rfl⟩;rw[hw2]at bL2 hB2 hA2|-;clear hw2;refine⟨trivial,(callsIn_wide.2 (qS A nt kt text w2 (HT.out.below hB2) hnt hb1)).mono ?_⟩;rintro e w3 ⟨A3,c3,rfl,hown3,hbw3⟩;have bL3:Boxed w3 w.heap.size 22 (H A1 ts.length k1):=(hbw3.block _ bL2.lt).trans bL2;have hA3:=hA2.below hbw3;have hB3:=hB2.trans (hbw3.mono hB2.size);have hs3:=hbw3.size;have hlt2:=bL2.lt;rw[hnt]at hown3|-;have HOWN:=G hown3;have HA3:=G hA3;have HWI:=G (fun hne bo hbo=>Sl.lt hA2 (cs:=fR ts) hne bo hbo);clear hbw3 hA2 bL2 hB2 hown3 hA3;have cL:=(bL3.alloc (.cells #[H A3 nt c3] 33)).cell;gi_wp2_with fail;refine⟨trivial,(callsIn_wide.2 (yW A nt kt A1 ts.length k1 _)).mono ?_⟩;rintro e W0 ⟨rfl,hW0⟩;simp only[World.size_alloc]at hW0|-;have hsz:W0.heap.size=w3.heap.size+3:=by rw[<-hW0];simp
 have hM:Mem (w3.heap.size+1+1) (w3.heap.size+1) A nt kt text A1 ts.length k1 ts W0:=by
  rw[<-hW0];refine⟨?_,?_,Sl.alloc (Sl.alloc (Sl.alloc (HT.out.below hB3) _) _) _,Sl.alloc (Sl.alloc (Sl.alloc HA3.out _) _) _⟩
  ·have h:=(Boxed.new ((w3.alloc (.cells #[H A3 nt c3] 33)).alloc (.cells #[H A1 ts.length k1] 22)) 33 (H A nt kt)).cell
   rw[World.size_alloc,World.size_alloc]at h;exact h
  have h:=((Boxed.new (w3.alloc (.cells #[H A3 nt c3] 33)) 22 (H A1 ts.length k1)).alloc (.cells #[H A nt kt] 33)).cell;rw[World.size_alloc]at h;exact h
 have hI0:gK (cls ts) text w2.heap.size w3.heap.size w.heap.size A3 nt c3 A1 ts.length k1 ts w [] W0:=by
  rw[<-hW0];refine gK.alloc (gK.alloc ?_ _) _;exact⟨Boxed.new _ _ _,⟨text,HOWN.out.alloc _,rfl⟩,cL,Sl.alloc HA3.out _,hB3.alloc hB3.size _⟩
 obtain⟨bo,hbo1,hbo2,hbo3⟩:=QM HOWN.out (top:=w3.heap.size+3) (by omega);obtain⟨all,hall⟩:=SJ (n:=nt) (rns (cls ts) text 0 N) (fun r hr=>by have:=SU (cls ts) text 0 N (fun _ h=>by cases h) r hr;omega);have HALL:=G hall;clear hall;have HM:=G hM;clear hM;have HB:=G hbo3;clear hbo3;clear hW0 cL bL3 HA3 HOWN;gi_wp2_with fail
 refine wpIn_rangeFunc_ownH rfl (by omega) (gf:=166) (lb:=#[.pointer (Z ⟨w3.heap.size+1+1,0,N⟩),.pointer (Z ⟨w3.heap.size+1,0,N⟩)]) rfl trivial (enters_of func166 (by kernel_rfl) rfl)
  (yX (α:=RgN nt) (fun x=>x.1) 5 (by omega) W0.heap.size bo (w3.heap.size+1+1) (w3.heap.size+1) A nt kt text A1 ts.length k1 ts all W0 HALL.out hnt rfl (by omega) (by omega) hasc.out ⟨by omega,by omega⟩ ⟨by omega,by omega⟩
   (fun hne=>(Sl.lt HT.out (by simpa using hne) _ (by omega)).mono (by have:=hB3.size;omega)) (fun hne=>(HWI.out (by cases ts with|nil=>exact absurd rfl hne|cons s r=>simp[fR]) _ hbo1).mono (by omega)) HM.out)
  (fun h k=>h.trans k) (fun W l o o' hl h hc hw=>nD (belowK_b (w:=W0) (by omega) W l o o' hl h hc hw)) (Below.refl _ _) (fun _=>rfl)
  (fun pre W=>gK (cls ts) text w2.heap.size w3.heap.size w.heap.size A3 nt c3 A1 ts.length k1 ts w (pre.map fun x=>x.1) W/\W0.heap.size<=W.heap.size)
  (fun _ _ _=>False)
  (OwnFrom.and (gK.own _ (by have:=hB3.size;omega)) (fun _ _ _ _ h hg _=>Nat.le_trans h hg.size))
  (fun _ _ _ _ _ hs _ _=>hs)
  ⟨hI0,Nat.le_refl _⟩
  (fun x a' W=>∃Bx,w3.heap.size<Bx/\W.heap[Bx]?=Z (.cells #[I J (x.1.1:Int),I J (x.1.2:Int)] 179 (0,0))/\a'={ tmps:=#[H A' ns ks,H A nt kt,.pointer (Z ⟨w.heap.size,0,N⟩),undef,H N 0 0,.pointer (Z ⟨w3.heap.size,0,N⟩),.pointer (Z ⟨Bx,0,N⟩),H A' ns ks,H A1 ts.length k1,H A nt kt,H A3 nt c3,H A1 ts.length k1,H A nt kt,.func (.func 166) #[] #[.pointer (Z ⟨w3.heap.size+1+1,0,N⟩),.pointer (Z ⟨w3.heap.size+1,0,N⟩)],.agg #[I J (x.1.1:Int),I J (x.1.2:Int)],undef,undef,undef,undef,undef,undef,undef,undef,undef],defers:=[] })
  (fun x a' _ X Y row hs hg hr=>by
   obtain⟨Bx,h1,h2,h3⟩:=hs
   refine⟨Bx,h1,(hg.block Bx (Array.getElem?_eq_some_iff.1 h2).1 (fun e=>?_)).trans h2,h3⟩
   obtain⟨_,o,ho,hc⟩:=hr Bx e.symm
   rw[h2]at ho;cases ho;cases hc)
  ?assign ?body ?done ?stop
 case assign=>
  rintro l pre x W K ⟨hI1,hWs⟩ hK;unfold lS at *;gi_wp2;exact hK _ _ ((KeepsOthers.alloc _ _).from _) (nD ((Below.refl _ W).alloc hWs _)) ⟨hI1.alloc _,by rw[World.size_alloc];omega⟩ ⟨W.heap.size,hI1.box.lt,heap_alloc_new W _,rfl⟩
 case body=>
  rintro l pre ⟨⟨lo,hi⟩,hx1,hx2⟩ a' W hl ⟨r,hr⟩ ⟨hI1,hWs⟩ ⟨Bx,hBx,bX,rfl⟩ hlt;dsimp only at hx1 hx2 bX|-;obtain⟨d,hrow,hstp⟩:=hI1.row;obtain⟨g,post,rfl,hg1,hRow,hdl,hcl,hcm⟩:=sO hrow (by omega);obtain rfl:=HB.out g 0 rfl;have cS:=hI1.box.cell;have x0:W.cell? ⟨Bx,0,N⟩=Z (I J (lo:Int)):=by rw[cell_of_row W Bx 0 _ _ (0,0) bX];rfl
  have x1:W.cell? ⟨Bx,1,N⟩=Z (I J (hi:Int)):=by rw[cell_of_row W Bx 1 _ _ (0,0) bX];rfl
  have HSTP:=G hstp;have HROW:=G hRow;have HI:=G hI1;clear hstp hRow hrow hI1;gi_wp2_with fail;have hseg:((d.drop lo).take (hi-lo)).length=hi-lo:=by simp;omega
  have HCUT:=G (HROW.out.cut (lo:=lo) (hi:=hi) (by omega) (by omega));have HC:=G (GD (b:=g) HI.out.l HI.out.sp rfl (by omega) hasc.out (by omega) (fun hne o e=>(HWI.out (by cases ts with|nil=>exact absurd rfl hne|cons s r=>simp[fR]) g hbo1 g o e).2 rfl));refine⟨trivial,(CallsIn.inRound l (callsIn_wide.2 (BT g w.heap.size lo (hi-lo) (c3-lo) 3 (cls ts) _ _ _ W HCUT.out hseg (by omega) HC.out))).mono ?_⟩;rintro e W5 ⟨rfl,d5,hD,hR5,hg5⟩;have hko:KeepsOthers W W5:=MQ hg5 HROW.out.2;have hkx:fO W0.heap.size g W W5:=⟨hg5.size,fun k hk hne=>hg5.block k (by omega) (by intro e;injection e with e;exact hne e)⟩;have hR6:=hR5.uncut;have hd5:d5.length=hi-lo:=hD.1.1.trans hseg;have hout:d.take lo++(d.drop lo).take (hi-lo)++d.drop hi=d:=by
   have:=Srt.parts d lo lo hi (Nat.le_refl _) (by omega);simp only[Nat.sub_self,List.take_zero,List.nil_append]at this;exact this.symm
  have hdone:Srt.Done (cls ts) d (d.take lo++d5++d.drop hi) lo hi:=by
   have h1:=Srt.Done.lift (p:=d.take lo) (q:=d.drop hi) (show Srt.Done (cls ts) ((d.drop lo).take (hi-lo)) d5 0 _ by rw[hseg];exact hD);rw[hout,hseg,show(d.take lo).length=lo by simp;omega,show lo+(hi-lo)=hi by omega]at h1;exact h1
  have hI5:gK (cls ts) text w2.heap.size w3.heap.size w.heap.size (Z ⟨g,0,N⟩) nt c3 A1 ts.length k1 ts w ((pre++[(⟨(lo,hi),hx1,hx2⟩:RgN nt)]).map fun x=>x.1) W5:=by
   have hcell:∀p:Addr,p.block<W.heap.size->p.block≠g->W5.cell? p=W.cell? p:=fun p h1 h2=>World.cell?_of_block (w:=W) (hg5.block p.block h1 (fun e=>h2 (by injection e)))
   refine⟨HI.out.box.kept hg5 (fun e=>?_),⟨_,yT hR6 hg1 (by simp[hd5];omega) hcl hcm,?_⟩,?_,?_,?_⟩
   ·injection e with e;omega
   ·rw[List.map_append]
    exact Srt.Stp.snoc (r:=(lo,hi)) HSTP.out hdone
   ·exact(hcell _ (World.block_lt_of_cell? W _ HI.out.l) (by simp;omega)).trans HI.out.l
   ·intro hne
    obtain⟨b',o',hA,hcs⟩:=HI.out.sp hne;refine⟨b',o',hA,fun j u hu=>?_⟩;have h1:=hcs j u hu;exact(hcell _ (World.block_lt_of_cell? W _ h1) (by rintro rfl;exact(HWI.out hne _ hbo1 _ _ hA).2 rfl)).trans h1
   exact HI.out.bel.grown hg5 HI.out.bel.size (fun k e=>by injection e with e;omega)
  have hsz5:=hg5.size;clear hD hR5 hR6 hg5 HCUT HC HROW HI HSTP hdone hout;gi_wp2_with fail;exact⟨hko.from _,hkx,hI5,by omega⟩
 case done=>
  rintro D ys W hD rfl ⟨hI1,hWs⟩ hK;obtain⟨d,hrow,hstp⟩:=hI1.row;have cS:=hI1.box.cell;have HRow:=G (ownsRow_putObj hrow (.deferred N) hK rfl);have HBel:=G (hI1.bel.trans (belowK_b (w:=w) (Nat.le_refl _) W D _ (.deferred N) (by have:=hB3.size;omega) hK rfl rfl));have HSTP:=G hstp;have hcv:nt<=c3:=by obtain⟨Av,cv,hv,hcv⟩:=fX hrow;injection hv with _ _ h;omega
  clear hrow hstp;gi_wp2_with fail;refine⟨by simp,.inl ⟨_,_,rfl,run_takeDeferred hK,?_⟩⟩;refine⟨_,results_tmp rfl _ _ _,A3,c3,d,rfl,?_,gZ HRow.out (by omega),?_,HBel.out⟩
  ·exact hcv
  have:=HSTP.out;rw[HALL.out]at this;exact this
 rintro D c pre W _ _ h _;exact h.elim
theorem BU(A':Oa)(ns ks:Nat)(ss:List Spn)(A:Oa)(nt kt:Nat)(text:Li)(w:Wv)(hS:bD w A' ss)(hT:aB w A text)
  (hnt:text.length=nt) (hns:ss.length=ns) (hb1:nt<=1048576) (hb2:ns<=1099511627776) (hL:cK w) :
  Calls prog 64 #[H A' ns ks,H A nt kt] w (eS (Can.srt (clz ss) text) w):=by
 refine(BX A' ns ks ss _ A nt kt text w hS hT hnt hns hb1 hb2 hL rfl).mono ?_;rintro e w' ⟨A1,c,d,rfl,hc,hI,hs,hb⟩;obtain rfl:=Can.stp_srt (fun x=>(FU ss x).1) hs;have hl:(Can.srt (clz ss) text).length=nt:=by rw[Can.srt_len,hnt]
 exact⟨A1,c,by rw[hl],by rw[hl];exact hI,hb⟩
end
end Go.Proofs.YtkhmjidaeliccaaGreatDoor
