import Derived.Test.YtpfbnikbebccjaaGreatDoorU00
import Derived.Test.YtpfbnikbebccjaaGreatDoorU02
import Derived.Test.YtpfbnikbebccjaaGreatDoorU03
import Derived.Test.YtpfbnikbebccjaaGreatDoorU04
import Derived.Test.YtpfbnikbebccjaaGreatDoorU06
import Derived.Test.YtpfbnikbebccjaaGreatDoorU07
import Derived.Test.YtpfbnikbebccjaaGreatDoorU11
import Derived.Test.YtpfbnikbebccjaaGreatDoorU12
import Derived.Deep.RegionWith
set_option maxRecDepth 100000
set_option maxHeartbeats 51200000
namespace Go.Proofs.YtpfbnikbebccjaaGreatDoor
open Option renaming none->N,some->Z
open Value renaming int->I,slice->H
open IntKind renaming i64->J
open Go.Proofs.Tryz
section
open Go.RowKit
theorem zAi(b B off n c p m y:Nat)(e:TypeId)(key:Int->Int)(d:Li)(pre post:Lv)(w:Wv)
  (ih:∀(p' m' y':Nat)(d':Li)(w':Wv),Row w' b off e pre post d'->d'.length=n->p' < m'->m' < y'->y'<=n->n<=1099511627776->gZ b B w' key->Srt.SortedOn key d' p' m'->Srt.SortedOn key d' m' y'->y' - p' < y-p->
   Calls prog 195 #[H (Z ⟨b,off,N⟩) n c,I J p',I J m',I J y',(.func (.func 173) #[] #[.pointer (Z ⟨B,0,N⟩)])] w' (iZ (fun d''=>Srt.Done key d' d'' p' y') b off e pre post w'))
  (hR:Row w b off e pre post d) (hn:d.length=n) (hpm:p<m) (hmy:m<y) (hy:y<=n) (hbig:n<=1099511627776) (hC:gZ b B w key) (hs1:Srt.SortedOn key d p m) (hs2:Srt.SortedOn key d m y)
  (hp1:¬m=p+1) (hy1:¬y=m+1) :
  Calls prog 195 #[H (Z ⟨b,off,N⟩) n c,I J p,I J m,I J y,(.func (.func 173) #[] #[.pointer (Z ⟨B,0,N⟩)])] w (iZ (fun d'=>Srt.Done key d d' p y) b off e pre post w):=by
 subst hn;have HC:=G hC;have HS1:=G hs1;have HS2:=G hs2;have IH:=G ih;clear hC hs1 hs2 ih;have e1:((m:Int)-(p:Int)==1)=false:=by simp;omega
 have e2:((y:Int)-(m:Int)==1)=false:=by simp;omega
 obtain⟨M,hM,hMn,hM1,hM2⟩:∃M:Nat,((p:Int)+(y:Int))/2=(M:Int)/\(p+y)/2=M/\p<M/\M<y:=⟨(p+y)/2,by omega,rfl,by omega,by omega⟩;have hMa:2*M<=p+y:=by omega
 have hMb:p+y<=2*M+1:=by omega
 by_cases hmm:M<m
 ·obtain⟨s0,hz,hz'⟩:∃s0:Nat,(M:Int)+(m:Int)-(y:Int)=(s0:Int)/\s0=M+m-y:=⟨M+m-y,by omega,rfl⟩
  have hdm:decide (M<m)=true:=by simpa using hmm
  go_enter func195,ntmps195;have HMN0:=G hMn;have HZ0:=G hz';clear hMn hz';go_wp2_with fail;clear hM hz;have hMn:=HMN0.out;have hz1:s0+y=M+m:=by have:=HZ0.out;omega
  clear HMN0
  go_loopw [20,21] (fun u v wr=>∃st r:Nat,s0<=st/\st<=r/\r<=M/\u=I J st/\v=I J r/\(∀c,s0<=c->c<st->Srt.kf key d c<=Srt.kf key d (M+m-1-c))/\(∀c,r<=c->c<M->Srt.kf key d (M+m-1-c)<Srt.kf key d c)/\
    Row wr b off e pre post d/\w.grownBy wr (Z b)) (fun u v _=>(intOf v).toNat-(intOf u).toNat)
  case atStart=>exact⟨s0,M,Nat.le_refl _,by omega,Nat.le_refl _,rfl,rfl,fun t h1 h2=>by omega,fun t h1 h2=>by omega,hR,aO _ _⟩
  obtain⟨st,r,hs1,hsr,hs2,rfl,rfl,hyes,hno,hR2,hg2⟩:=hrel;have HYES:=G hyes;have HNO:=G hno;clear hyes hno;by_cases hlt:st<r
  ·obtain⟨h,hh,h1,h2,h3⟩:∃h:Nat,((st:Int)+(r:Int))/2=(h:Int)/\st<=h/\h<r/\h<d.length:=⟨(st+r)/2,by omega,by omega,by omega,by omega⟩
   obtain⟨g,hg0,hgn⟩:∃g:Nat,g=M+m-1-h/\g<d.length:=⟨M+m-1-h,rfl,by omega⟩;obtain⟨x,hx⟩:=fT (d:=d) (i:=h) h3;obtain⟨z,hz⟩:=fT (d:=d) (i:=g) hgn;have cx:=hR2.cell hx;have cz:=hR2.cell hz;have HX:=G hx;have HZ:=G hz;have C:=G (fun W hW=>HC.out W hW z x);have i0:(M:Int)+(m:Int)-1-(h:Int)=(g:Int):=by omega
   have i1:IntKind.i64.wrap ((M:Int)+(m:Int)-1-(h:Int))=(g:Int):=by rw[i0];exact IntWalk.i64_in _ (by omega)
   have i1':IntKind.i64.wrap (g:Int)=(g:Int):=IntWalk.i64_in _ (by omega);have HG:=G hg0;have HMN:=G hMn;clear hx hz hg0 hMn;go_wp2_with fail;clear hh;refine wp_region_still_tail 11 (by kernel_rfl) (by kernel_rfl) ?_;simp only[List.take_succ_cons,List.take_zero,List.drop_succ_cons,List.drop_zero];change wpStill _ _ wr.drew _ _ _;repeat still_step
   refine wpStill_nil ?_;change wpList _ _ _ _ _ wr.drew;clear i0 i1 i1';go_wp2_with fail;refine(C.out _ (c_ hg2)).mono ?_;rintro e w3 ⟨cc,rfl,hcc,hb3⟩;have hR3:=(hR2.drew).below hb3;have hg3:=cT (c_ hg2) hb3;clear hR2 hg2 hb3 cx cz;by_cases hkey:key z<key x
   ·have hneg:decide (cc<0)=true:=by simpa using hcc.2 hkey
    clear hcc;go_wp2;go_roundw
    case rel=>
     refine⟨st,h,by omega,by omega,by omega,rfl,rfl,HYES.out,fun t g1 g2=>?_,hR3,hg3⟩;have hgg:=HG.out;have kz:Srt.kf key d (M+m-1-h)=key z:=by rw[<-hgg];exact Srt.kf_some HZ.out
     have kx:=Srt.kf_some (key:=key) HX.out;by_cases et:t<r
     ·have k1:=HS1.out.le (i:=h) (j:=t) (by omega) g1 (by omega)
      have k2:=HS2.out.le (i:=M+m-1-t) (j:=M+m-1-h) (by omega) (by omega) (by omega);omega
     exact HNO.out t (by omega) g2
    simp[intOf];omega
   have hneg:decide (cc<0)=false:=by simpa using fun g=>hkey (hcc.1 g)
   clear hcc;go_wp2;go_roundw
   case rel=>
    refine⟨h+1,r,by omega,by omega,by omega,by go_num,rfl,fun t g1 g2=>?_,HNO.out,hR3,hg3⟩;have hgg:=HG.out;have kz:Srt.kf key d (M+m-1-h)=key z:=by rw[<-hgg];exact Srt.kf_some HZ.out
    have kx:=Srt.kf_some (key:=key) HX.out;by_cases et:st<=t
    ·have k1:=HS1.out.le (i:=t) (j:=h) (by omega) (by omega) (by omega)
     have k2:=HS2.out.le (i:=M+m-1-h) (j:=M+m-1-t) (by omega) (by omega) (by omega);omega
    exact HYES.out t g1 (by omega)
   simp[intOf];omega
  obtain rfl:st=r:=by omega
  have f:=Srt.found_of (key:=key) (d:=d) (a:=p) (m:=m) (b:=y) (st:=st) (s0:=s0) (r0:=M) hpm HS1.out HS2.out (by rw[hMn];exact .inl ⟨hmm,HZ0.out,rfl⟩) hs1 hs2 (by rw[hMn];exact HYES.out) (by rw[hMn];exact HNO.out);obtain⟨E,hE,hE'⟩:∃E:Nat,((M:Int)+(m:Int))-(st:Int)=(E:Int)/\M+m-st=E:=⟨M+m-st,by omega,rfl⟩;have hM':=hMn;by_cases hrr:st<m/\m<E
  ·obtain⟨hr1,hr2⟩:=hrr
   have hEy:E<=y:=by rw[<-hE',<-hMn];exact f.en2
   have C:=G (BH b off d.length c st m E e (.func (.func 173) #[] #[.pointer (Z ⟨B,0,N⟩)]) d pre post wr hR2 rfl hr1 hr2 (by omega) hbig);have F0:=G f;have HMM0:=G hM';have HEE0:=G hE';clear f hM' hE' hMn;go_wp2_with fail
   all_goals
    refine C.out.mono ?_;rintro e W1 ⟨rfl,d1,hrot0,hR1,hg1x⟩;have hg1:=bF hg2 hg1x;have f:=F0.out;have hM':=HMM0.out;have hE':=HEE0.out;have hrot:Srt.Rot d d1 st m ((p+y)/2+m-st):=by rw[hM',hE'];exact hrot0
    clear hrot0 hg1x hR2 hg2 C F0 HMM0 HEE0;obtain⟨q1,q2,q3,q4,q5,q6,q7⟩:=f.halves hy HS1.out HS2.out hrot;rw[hM']at q4 q7;rw[hM',hE']at q5 q6;have Q1:=G q1;have Q2:=G q2;have Q3:=G q3;have Q4:=G q4;have Q5:=G q5;have Q6:=G q6;have Q7:=G q7;have F:=G f;have HMM:=G hM';have HEE:=G hE';have hn1:d1.length=d.length:=q1.1;have HN1:=G hn1;have f1:=f.lo;have f2:=f.hi;have f3:m<=E:=by rw[<-hE',<-hM'];exact f.en
    have f4:E<=y:=by rw[<-hE',<-hM'];exact f.en2
    have f5:st<=M:=by rw[<-hM'];exact f.mid
    clear q1 q2 q3 q4 q5 q6 q7 f hM' hE' hrot hn1;by_cases hll:p<st/\st<M
    ·obtain⟨hl1,hl2⟩:=hll
     have C:=G (IH.out p st M d1 W1 hR1 HN1.out hl1 hl2 (by omega) hbig (HC.out.later hg1) Q3.out Q4.out (by omega));go_wp2_with fail
     all_goals
      refine C.out.mono ?_;rintro e W2 ⟨rfl,d2,hD2,hR2,hg2x⟩;have hg2:=bF hg1 hg2x;have hl:=Srt.left_done Q3.out Q4.out (fun _=>hD2) (fun h=>absurd ⟨hl1,hl2⟩ h) f1 f5;clear hD2 hg2x hR1 hg1;have s1:Srt.SortedOn key d2 M E:=Q5.out.same hl.1 (.inr (Nat.le_refl _));have s2:Srt.SortedOn key d2 E y:=Q6.out.same hl.1 (.inr (by omega));have hn2:d2.length=d.length:=by rw[hl.1.1,HN1.out]
      have HL:=G hl;have S1:=G s1;have S2:=G s2;have HN:=G hn2;clear hl s1 s2 hn2;by_cases hrr:M<E/\E<y
      ·obtain⟨hr1,hr2⟩:=hrr
       have C:=G (IH.out M E y d2 W2 hR2 HN.out hr1 hr2 hy hbig (HC.out.later hg2) S1.out S2.out (by omega));go_wp2_with fail
       all_goals
        refine C.out.mono ?_;rintro e W3 ⟨rfl,d3,hD3,hR3,hg3⟩;go_wp2_with fail;go_end0;exact⟨rfl,d3,Srt.both_done (by omega) (by omega) hy Q1.out Q2.out Q7.out HL.out hD3,hR3,bF hg2 hg3⟩
      have hD3:Srt.Done key d2 d2 M y:=by
       refine Srt.Done.refl_of ?_;by_cases e9:M<E
       ·obtain rfl:E=y:=by omega
        exact S1.out
       obtain rfl:M=E:=by omega
       exact S2.out
      have HD3:=G hD3;have hr0:¬(M<E)\/¬(E<y):=by omega
      clear hD3 hrr;rcases hr0 with hr0|hr0
      all_goals
       go_wp2_with fail
       all_goals
        go_end0;exact⟨rfl,d2,Srt.both_done (by omega) (by omega) hy Q1.out Q2.out Q7.out HL.out HD3.out,hR2,hg2⟩
    have hl0:¬(p<st)\/¬(st<M):=by omega
    have hl:=Srt.left_done (d2:=d1) Q3.out Q4.out (fun h=>absurd h hll) (fun _=>rfl) f1 f5;clear hll;obtain⟨d2,rfl⟩:∃d2,d2=d1:=⟨_,rfl⟩;obtain⟨W2,rfl⟩:∃W2:Wv,W2=W1:=⟨_,rfl⟩;have hR2:=hR1;have hg2:=hg1;clear hR1 hg1;rcases hl0 with hl0|hl0
    all_goals
     have s1:Srt.SortedOn key d2 M E:=Q5.out.same hl.1 (.inr (Nat.le_refl _));have s2:Srt.SortedOn key d2 E y:=Q6.out.same hl.1 (.inr (by omega));have hn2:d2.length=d.length:=by rw[hl.1.1,HN1.out]
     have HL:=G hl;have S1:=G s1;have S2:=G s2;have HN:=G hn2;clear hl s1 s2 hn2;by_cases hrr:M<E/\E<y
     ·obtain⟨hr1,hr2⟩:=hrr
      have C:=G (IH.out M E y d2 W2 hR2 HN.out hr1 hr2 hy hbig (HC.out.later hg2) S1.out S2.out (by omega));go_wp2_with fail
      all_goals
       refine C.out.mono ?_;rintro e W3 ⟨rfl,d3,hD3,hR3,hg3⟩;go_wp2_with fail;go_end0;exact⟨rfl,d3,Srt.both_done (by omega) (by omega) hy Q1.out Q2.out Q7.out HL.out hD3,hR3,bF hg2 hg3⟩
     have hD3:Srt.Done key d2 d2 M y:=by
      refine Srt.Done.refl_of ?_;by_cases e9:M<E
      ·obtain rfl:E=y:=by omega
       exact S1.out
      obtain rfl:M=E:=by omega
      exact S2.out
     have HD3:=G hD3;have hr0:¬(M<E)\/¬(E<y):=by omega
     clear hD3 hrr;rcases hr0 with hr0|hr0
     all_goals
      go_wp2_with fail
      all_goals
       go_end0;exact⟨rfl,d2,Srt.both_done (by omega) (by omega) hy Q1.out Q2.out Q7.out HL.out HD3.out,hR2,hg2⟩
  have hr0:¬(st<m)\/¬(m<E):=by omega
  have hrot:Srt.Rot d d st m ((p+y)/2+m-st):=Srt.rot_triv f.hi f.en (by have:=f.hi;have:=f.en;rw[hM',hE']at *;omega);clear hrr hMn;obtain⟨d1,hd1⟩:∃d1,d1=d:=⟨_,rfl⟩;obtain⟨W1,rfl⟩:∃W1:Wv,W1=wr:=⟨_,rfl⟩;have hR1:=hR2;have hg1:=hg2;rw[<-hd1]at hR1;have hrot1:Srt.Rot d d1 st m ((p+y)/2+m-st):=by rw[hd1];exact hrot
  clear hrot hR2 hg2 hd1;have hrot:=hrot1;clear hrot1;rcases hr0 with hr0|hr0
  all_goals
   obtain⟨q1,q2,q3,q4,q5,q6,q7⟩:=f.halves hy HS1.out HS2.out hrot;rw[hM']at q4 q7;rw[hM',hE']at q5 q6;have Q1:=G q1;have Q2:=G q2;have Q3:=G q3;have Q4:=G q4;have Q5:=G q5;have Q6:=G q6;have Q7:=G q7;have F:=G f;have HMM:=G hM';have HEE:=G hE';have hn1:d1.length=d.length:=q1.1;have HN1:=G hn1;have f1:=f.lo;have f2:=f.hi;have f3:m<=E:=by rw[<-hE',<-hM'];exact f.en
   have f4:E<=y:=by rw[<-hE',<-hM'];exact f.en2
   have f5:st<=M:=by rw[<-hM'];exact f.mid
   clear q1 q2 q3 q4 q5 q6 q7 f hM' hE' hrot hn1;by_cases hll:p<st/\st<M
   ·obtain⟨hl1,hl2⟩:=hll
    have C:=G (IH.out p st M d1 W1 hR1 HN1.out hl1 hl2 (by omega) hbig (HC.out.later hg1) Q3.out Q4.out (by omega));go_wp2_with fail
    all_goals
     refine C.out.mono ?_;rintro e W2 ⟨rfl,d2,hD2,hR2,hg2x⟩;have hg2:=bF hg1 hg2x;have hl:=Srt.left_done Q3.out Q4.out (fun _=>hD2) (fun h=>absurd ⟨hl1,hl2⟩ h) f1 f5;clear hD2 hg2x hR1 hg1;have s1:Srt.SortedOn key d2 M E:=Q5.out.same hl.1 (.inr (Nat.le_refl _));have s2:Srt.SortedOn key d2 E y:=Q6.out.same hl.1 (.inr (by omega));have hn2:d2.length=d.length:=by rw[hl.1.1,HN1.out]
     have HL:=G hl;have S1:=G s1;have S2:=G s2;have HN:=G hn2;clear hl s1 s2 hn2;by_cases hrr:M<E/\E<y
     ·obtain⟨hr1,hr2⟩:=hrr
      have C:=G (IH.out M E y d2 W2 hR2 HN.out hr1 hr2 hy hbig (HC.out.later hg2) S1.out S2.out (by omega));go_wp2_with fail
      all_goals
       refine C.out.mono ?_;rintro e W3 ⟨rfl,d3,hD3,hR3,hg3⟩;go_wp2_with fail;go_end0;exact⟨rfl,d3,Srt.both_done (by omega) (by omega) hy Q1.out Q2.out Q7.out HL.out hD3,hR3,bF hg2 hg3⟩
     have hD3:Srt.Done key d2 d2 M y:=by
      refine Srt.Done.refl_of ?_;by_cases e9:M<E
      ·obtain rfl:E=y:=by omega
       exact S1.out
      obtain rfl:M=E:=by omega
      exact S2.out
     have HD3:=G hD3;have hr0:¬(M<E)\/¬(E<y):=by omega
     clear hD3 hrr;rcases hr0 with hr0|hr0
     all_goals
      go_wp2_with fail
      all_goals
       go_end0;exact⟨rfl,d2,Srt.both_done (by omega) (by omega) hy Q1.out Q2.out Q7.out HL.out HD3.out,hR2,hg2⟩
   have hl0:¬(p<st)\/¬(st<M):=by omega
   have hl:=Srt.left_done (d2:=d1) Q3.out Q4.out (fun h=>absurd h hll) (fun _=>rfl) f1 f5;clear hll;obtain⟨d2,rfl⟩:∃d2,d2=d1:=⟨_,rfl⟩;obtain⟨W2,rfl⟩:∃W2:Wv,W2=W1:=⟨_,rfl⟩;have hR2:=hR1;have hg2:=hg1;clear hR1 hg1;rcases hl0 with hl0|hl0
   all_goals
    have s1:Srt.SortedOn key d2 M E:=Q5.out.same hl.1 (.inr (Nat.le_refl _));have s2:Srt.SortedOn key d2 E y:=Q6.out.same hl.1 (.inr (by omega));have hn2:d2.length=d.length:=by rw[hl.1.1,HN1.out]
    have HL:=G hl;have S1:=G s1;have S2:=G s2;have HN:=G hn2;clear hl s1 s2 hn2;by_cases hrr:M<E/\E<y
    ·obtain⟨hr1,hr2⟩:=hrr
     have C:=G (IH.out M E y d2 W2 hR2 HN.out hr1 hr2 hy hbig (HC.out.later hg2) S1.out S2.out (by omega));go_wp2_with fail
     all_goals
      refine C.out.mono ?_;rintro e W3 ⟨rfl,d3,hD3,hR3,hg3⟩;go_wp2_with fail;go_end0;exact⟨rfl,d3,Srt.both_done (by omega) (by omega) hy Q1.out Q2.out Q7.out HL.out hD3,hR3,bF hg2 hg3⟩
    have hD3:Srt.Done key d2 d2 M y:=by
     refine Srt.Done.refl_of ?_;by_cases e9:M<E
     ·obtain rfl:E=y:=by omega
      exact S1.out
     obtain rfl:M=E:=by omega
     exact S2.out
    have HD3:=G hD3;have hr0:¬(M<E)\/¬(E<y):=by omega
    clear hD3 hrr;rcases hr0 with hr0|hr0
    all_goals
     go_wp2_with fail
     all_goals
      go_end0;exact⟨rfl,d2,Srt.both_done (by omega) (by omega) hy Q1.out Q2.out Q7.out HL.out HD3.out,hR2,hg2⟩
 go_enter func195,ntmps195;have HMN0:=G hMn;clear hMn;go_wp2_with fail;clear hM;have hMn:=HMN0.out;clear HMN0
 go_loopw [20,21] (fun u v wr=>∃st r:Nat,p<=st/\st<=r/\r<=m/\u=I J st/\v=I J r/\(∀c,p<=c->c<st->Srt.kf key d c<=Srt.kf key d (M+m-1-c))/\(∀c,r<=c->c<m->Srt.kf key d (M+m-1-c)<Srt.kf key d c)/\
   Row wr b off e pre post d/\w.grownBy wr (Z b)) (fun u v _=>(intOf v).toNat-(intOf u).toNat)
 case atStart=>exact⟨p,m,Nat.le_refl _,by omega,Nat.le_refl _,rfl,rfl,fun t h1 h2=>by omega,fun t h1 h2=>by omega,hR,aO _ _⟩
 obtain⟨st,r,hs1,hsr,hs2,rfl,rfl,hyes,hno,hR2,hg2⟩:=hrel;have HYES:=G hyes;have HNO:=G hno;clear hyes hno;by_cases hlt:st<r
 ·obtain⟨h,hh,h1,h2,h3⟩:∃h:Nat,((st:Int)+(r:Int))/2=(h:Int)/\st<=h/\h<r/\h<d.length:=⟨(st+r)/2,by omega,by omega,by omega,by omega⟩
  obtain⟨g,hg0,hgn⟩:∃g:Nat,g=M+m-1-h/\g<d.length:=⟨M+m-1-h,rfl,by omega⟩;obtain⟨x,hx⟩:=fT (d:=d) (i:=h) h3;obtain⟨z,hz⟩:=fT (d:=d) (i:=g) hgn;have cx:=hR2.cell hx;have cz:=hR2.cell hz;have HX:=G hx;have HZ:=G hz;have C:=G (fun W hW=>HC.out W hW z x);have i0:(M:Int)+(m:Int)-1-(h:Int)=(g:Int):=by omega
  have i1:IntKind.i64.wrap ((M:Int)+(m:Int)-1-(h:Int))=(g:Int):=by rw[i0];exact IntWalk.i64_in _ (by omega)
  have i1':IntKind.i64.wrap (g:Int)=(g:Int):=IntWalk.i64_in _ (by omega);have HG:=G hg0;have HMN:=G hMn;clear hx hz hg0 hMn;go_wp2_with fail;clear hh;refine wp_region_still_tail 11 (by kernel_rfl) (by kernel_rfl) ?_;simp only[List.take_succ_cons,List.take_zero,List.drop_succ_cons,List.drop_zero];change wpStill _ _ wr.drew _ _ _;repeat still_step
  refine wpStill_nil ?_;change wpList _ _ _ _ _ wr.drew;clear i0 i1 i1';go_wp2_with fail;refine(C.out _ (c_ hg2)).mono ?_;rintro e w3 ⟨cc,rfl,hcc,hb3⟩;have hR3:=(hR2.drew).below hb3;have hg3:=cT (c_ hg2) hb3;clear hR2 hg2 hb3 cx cz;by_cases hkey:key z<key x
  ·have hneg:decide (cc<0)=true:=by simpa using hcc.2 hkey
   clear hcc;go_wp2;go_roundw
   case rel=>
    refine⟨st,h,by omega,by omega,by omega,rfl,rfl,HYES.out,fun t g1 g2=>?_,hR3,hg3⟩;have hgg:=HG.out;have kz:Srt.kf key d (M+m-1-h)=key z:=by rw[<-hgg];exact Srt.kf_some HZ.out
    have kx:=Srt.kf_some (key:=key) HX.out;by_cases et:t<r
    ·have k1:=HS1.out.le (i:=h) (j:=t) (by omega) g1 (by omega)
     have k2:=HS2.out.le (i:=M+m-1-t) (j:=M+m-1-h) (by omega) (by omega) (by omega);omega
    exact HNO.out t (by omega) g2
   simp[intOf];omega
  have hneg:decide (cc<0)=false:=by simpa using fun g=>hkey (hcc.1 g)
  clear hcc;go_wp2;go_roundw
  case rel=>
   refine⟨h+1,r,by omega,by omega,by omega,by go_num,rfl,fun t g1 g2=>?_,HNO.out,hR3,hg3⟩;have hgg:=HG.out;have kz:Srt.kf key d (M+m-1-h)=key z:=by rw[<-hgg];exact Srt.kf_some HZ.out
   have kx:=Srt.kf_some (key:=key) HX.out;by_cases et:st<=t
   ·have k1:=HS1.out.le (i:=t) (j:=h) (by omega) (by omega) (by omega)
    have k2:=HS2.out.le (i:=M+m-1-h) (j:=M+m-1-t) (by omega) (by omega) (by omega);omega
   exact HYES.out t g1 (by omega)
  simp[intOf];omega
 obtain rfl:st=r:=by omega
 have f:=Srt.found_of (key:=key) (d:=d) (a:=p) (m:=m) (b:=y) (st:=st) (s0:=p) (r0:=m) hpm HS1.out HS2.out (by rw[hMn];exact .inr ⟨by omega,rfl,rfl⟩) hs1 hs2 (by rw[hMn];exact HYES.out) (by rw[hMn];exact HNO.out);obtain⟨E,hE,hE'⟩:∃E:Nat,((M:Int)+(m:Int))-(st:Int)=(E:Int)/\M+m-st=E:=⟨M+m-st,by omega,rfl⟩;have hM':=hMn;by_cases hrr:st<m/\m<E
 ·obtain⟨hr1,hr2⟩:=hrr
  have hEy:E<=y:=by rw[<-hE',<-hMn];exact f.en2
  have C:=G (BH b off d.length c st m E e (.func (.func 173) #[] #[.pointer (Z ⟨B,0,N⟩)]) d pre post wr hR2 rfl hr1 hr2 (by omega) hbig);have F0:=G f;have HMM0:=G hM';have HEE0:=G hE';clear f hM' hE' hMn;go_wp2_with fail
  all_goals
   refine C.out.mono ?_;rintro e W1 ⟨rfl,d1,hrot0,hR1,hg1x⟩;have hg1:=bF hg2 hg1x;have f:=F0.out;have hM':=HMM0.out;have hE':=HEE0.out;have hrot:Srt.Rot d d1 st m ((p+y)/2+m-st):=by rw[hM',hE'];exact hrot0
   clear hrot0 hg1x hR2 hg2 C F0 HMM0 HEE0;obtain⟨q1,q2,q3,q4,q5,q6,q7⟩:=f.halves hy HS1.out HS2.out hrot;rw[hM']at q4 q7;rw[hM',hE']at q5 q6;have Q1:=G q1;have Q2:=G q2;have Q3:=G q3;have Q4:=G q4;have Q5:=G q5;have Q6:=G q6;have Q7:=G q7;have F:=G f;have HMM:=G hM';have HEE:=G hE';have hn1:d1.length=d.length:=q1.1;have HN1:=G hn1;have f1:=f.lo;have f2:=f.hi;have f3:m<=E:=by rw[<-hE',<-hM'];exact f.en
   have f4:E<=y:=by rw[<-hE',<-hM'];exact f.en2
   have f5:st<=M:=by rw[<-hM'];exact f.mid
   clear q1 q2 q3 q4 q5 q6 q7 f hM' hE' hrot hn1;by_cases hll:p<st/\st<M
   ·obtain⟨hl1,hl2⟩:=hll
    have C:=G (IH.out p st M d1 W1 hR1 HN1.out hl1 hl2 (by omega) hbig (HC.out.later hg1) Q3.out Q4.out (by omega));go_wp2_with fail
    all_goals
     refine C.out.mono ?_;rintro e W2 ⟨rfl,d2,hD2,hR2,hg2x⟩;have hg2:=bF hg1 hg2x;have hl:=Srt.left_done Q3.out Q4.out (fun _=>hD2) (fun h=>absurd ⟨hl1,hl2⟩ h) f1 f5;clear hD2 hg2x hR1 hg1;have s1:Srt.SortedOn key d2 M E:=Q5.out.same hl.1 (.inr (Nat.le_refl _));have s2:Srt.SortedOn key d2 E y:=Q6.out.same hl.1 (.inr (by omega));have hn2:d2.length=d.length:=by rw[hl.1.1,HN1.out]
     have HL:=G hl;have S1:=G s1;have S2:=G s2;have HN:=G hn2;clear hl s1 s2 hn2;by_cases hrr:M<E/\E<y
     ·obtain⟨hr1,hr2⟩:=hrr
      have C:=G (IH.out M E y d2 W2 hR2 HN.out hr1 hr2 hy hbig (HC.out.later hg2) S1.out S2.out (by omega));go_wp2_with fail
      all_goals
       refine C.out.mono ?_;rintro e W3 ⟨rfl,d3,hD3,hR3,hg3⟩;go_wp2_with fail;go_end0;exact⟨rfl,d3,Srt.both_done (by omega) (by omega) hy Q1.out Q2.out Q7.out HL.out hD3,hR3,bF hg2 hg3⟩
     have hD3:Srt.Done key d2 d2 M y:=by
      refine Srt.Done.refl_of ?_;by_cases e9:M<E
      ·obtain rfl:E=y:=by omega
       exact S1.out
      obtain rfl:M=E:=by omega
      exact S2.out
     have HD3:=G hD3;have hr0:¬(M<E)\/¬(E<y):=by omega
     clear hD3 hrr;rcases hr0 with hr0|hr0
     all_goals
      go_wp2_with fail
      all_goals
       go_end0;exact⟨rfl,d2,Srt.both_done (by omega) (by omega) hy Q1.out Q2.out Q7.out HL.out HD3.out,hR2,hg2⟩
   have hl0:¬(p<st)\/¬(st<M):=by omega
   have hl:=Srt.left_done (d2:=d1) Q3.out Q4.out (fun h=>absurd h hll) (fun _=>rfl) f1 f5;clear hll;obtain⟨d2,rfl⟩:∃d2,d2=d1:=⟨_,rfl⟩;obtain⟨W2,rfl⟩:∃W2:Wv,W2=W1:=⟨_,rfl⟩;have hR2:=hR1;have hg2:=hg1;clear hR1 hg1;rcases hl0 with hl0|hl0
   all_goals
    have s1:Srt.SortedOn key d2 M E:=Q5.out.same hl.1 (.inr (Nat.le_refl _));have s2:Srt.SortedOn key d2 E y:=Q6.out.same hl.1 (.inr (by omega));have hn2:d2.length=d.length:=by rw[hl.1.1,HN1.out]
    have HL:=G hl;have S1:=G s1;have S2:=G s2;have HN:=G hn2;clear hl s1 s2 hn2;by_cases hrr:M<E/\E<y
    ·obtain⟨hr1,hr2⟩:=hrr
     have C:=G (IH.out M E y d2 W2 hR2 HN.out hr1 hr2 hy hbig (HC.out.later hg2) S1.out S2.out (by omega));go_wp2_with fail
     all_goals
      refine C.out.mono ?_;rintro e W3 ⟨rfl,d3,hD3,hR3,hg3⟩;go_wp2_with fail;go_end0;exact⟨rfl,d3,Srt.both_done (by omega) (by omega) hy Q1.out Q2.out Q7.out HL.out hD3,hR3,bF hg2 hg3⟩
    have hD3:Srt.Done key d2 d2 M y:=by
     refine Srt.Done.refl_of ?_;by_cases e9:M<E
     ·obtain rfl:E=y:=by omega
      exact S1.out
     obtain rfl:M=E:=by omega
     exact S2.out
    have HD3:=G hD3;have hr0:¬(M<E)\/¬(E<y):=by omega
    clear hD3 hrr;rcases hr0 with hr0|hr0
    all_goals
     go_wp2_with fail
     all_goals
      go_end0;exact⟨rfl,d2,Srt.both_done (by omega) (by omega) hy Q1.out Q2.out Q7.out HL.out HD3.out,hR2,hg2⟩
 have hr0:¬(st<m)\/¬(m<E):=by omega
 have hrot:Srt.Rot d d st m ((p+y)/2+m-st):=Srt.rot_triv f.hi f.en (by have:=f.hi;have:=f.en;rw[hM',hE']at *;omega);clear hrr hMn;obtain⟨d1,hd1⟩:∃d1,d1=d:=⟨_,rfl⟩;obtain⟨W1,rfl⟩:∃W1:Wv,W1=wr:=⟨_,rfl⟩;have hR1:=hR2;have hg1:=hg2;rw[<-hd1]at hR1;have hrot1:Srt.Rot d d1 st m ((p+y)/2+m-st):=by rw[hd1];exact hrot
 clear hrot hR2 hg2 hd1;have hrot:=hrot1;clear hrot1;rcases hr0 with hr0|hr0
 all_goals
  obtain⟨q1,q2,q3,q4,q5,q6,q7⟩:=f.halves hy HS1.out HS2.out hrot;rw[hM']at q4 q7;rw[hM',hE']at q5 q6;have Q1:=G q1;have Q2:=G q2;have Q3:=G q3;have Q4:=G q4;have Q5:=G q5;have Q6:=G q6;have Q7:=G q7;have F:=G f;have HMM:=G hM';have HEE:=G hE';have hn1:d1.length=d.length:=q1.1;have HN1:=G hn1;have f1:=f.lo;have f2:=f.hi;have f3:m<=E:=by rw[<-hE',<-hM'];exact f.en
  have f4:E<=y:=by rw[<-hE',<-hM'];exact f.en2
  have f5:st<=M:=by rw[<-hM'];exact f.mid
  clear q1 q2 q3 q4 q5 q6 q7 f hM' hE' hrot hn1;by_cases hll:p<st/\st<M
  ·obtain⟨hl1,hl2⟩:=hll
   have C:=G (IH.out p st M d1 W1 hR1 HN1.out hl1 hl2 (by omega) hbig (HC.out.later hg1) Q3.out Q4.out (by omega));go_wp2_with fail
   all_goals
    refine C.out.mono ?_;rintro e W2 ⟨rfl,d2,hD2,hR2,hg2x⟩;have hg2:=bF hg1 hg2x;have hl:=Srt.left_done Q3.out Q4.out (fun _=>hD2) (fun h=>absurd ⟨hl1,hl2⟩ h) f1 f5;clear hD2 hg2x hR1 hg1;have s1:Srt.SortedOn key d2 M E:=Q5.out.same hl.1 (.inr (Nat.le_refl _));have s2:Srt.SortedOn key d2 E y:=Q6.out.same hl.1 (.inr (by omega));have hn2:d2.length=d.length:=by rw[hl.1.1,HN1.out]
    have HL:=G hl;have S1:=G s1;have S2:=G s2;have HN:=G hn2;clear hl s1 s2 hn2;by_cases hrr:M<E/\E<y
    ·obtain⟨hr1,hr2⟩:=hrr
     have C:=G (IH.out M E y d2 W2 hR2 HN.out hr1 hr2 hy hbig (HC.out.later hg2) S1.out S2.out (by omega));go_wp2_with fail
     all_goals
      refine C.out.mono ?_;rintro e W3 ⟨rfl,d3,hD3,hR3,hg3⟩;go_wp2_with fail;go_end0;exact⟨rfl,d3,Srt.both_done (by omega) (by omega) hy Q1.out Q2.out Q7.out HL.out hD3,hR3,bF hg2 hg3⟩
    have hD3:Srt.Done key d2 d2 M y:=by
     refine Srt.Done.refl_of ?_;by_cases e9:M<E
     ·obtain rfl:E=y:=by omega
      exact S1.out
     obtain rfl:M=E:=by omega
     exact S2.out
    have HD3:=G hD3;have hr0:¬(M<E)\/¬(E<y):=by omega
    clear hD3 hrr;rcases hr0 with hr0|hr0
    all_goals
     go_wp2_with fail
     all_goals
      go_end0;exact⟨rfl,d2,Srt.both_done (by omega) (by omega) hy Q1.out Q2.out Q7.out HL.out HD3.out,hR2,hg2⟩
  have hl0:¬(p<st)\/¬(st<M):=by omega
  have hl:=Srt.left_done (d2:=d1) Q3.out Q4.out (fun h=>absurd h hll) (fun _=>rfl) f1 f5;clear hll;obtain⟨d2,rfl⟩:∃d2,d2=d1:=⟨_,rfl⟩;obtain⟨W2,rfl⟩:∃W2:Wv,W2=W1:=⟨_,rfl⟩;have hR2:=hR1;have hg2:=hg1;clear hR1 hg1;rcases hl0 with hl0|hl0
  all_goals
   have s1:Srt.SortedOn key d2 M E:=Q5.out.same hl.1 (.inr (Nat.le_refl _));have s2:Srt.SortedOn key d2 E y:=Q6.out.same hl.1 (.inr (by omega));have hn2:d2.length=d.length:=by rw[hl.1.1,HN1.out]
   have HL:=G hl;have S1:=G s1;have S2:=G s2;have HN:=G hn2;clear hl s1 s2 hn2;by_cases hrr:M<E/\E<y
   ·obtain⟨hr1,hr2⟩:=hrr
    have C:=G (IH.out M E y d2 W2 hR2 HN.out hr1 hr2 hy hbig (HC.out.later hg2) S1.out S2.out (by omega));go_wp2_with fail
    all_goals
     refine C.out.mono ?_;rintro e W3 ⟨rfl,d3,hD3,hR3,hg3⟩;go_wp2_with fail;go_end0;exact⟨rfl,d3,Srt.both_done (by omega) (by omega) hy Q1.out Q2.out Q7.out HL.out hD3,hR3,bF hg2 hg3⟩
   have hD3:Srt.Done key d2 d2 M y:=by
    refine Srt.Done.refl_of ?_;by_cases e9:M<E
    ·obtain rfl:E=y:=by omega
     exact S1.out
    obtain rfl:M=E:=by omega
    exact S2.out
   have HD3:=G hD3;have hr0:¬(M<E)\/¬(E<y):=by omega
   clear hD3 hrr;rcases hr0 with hr0|hr0
   all_goals
    go_wp2_with fail
    all_goals
     go_end0;exact⟨rfl,d2,Srt.both_done (by omega) (by omega) hy Q1.out Q2.out Q7.out HL.out HD3.out,hR2,hg2⟩
theorem DI(b B off n c:Nat)(e:TypeId)(key:Int->Int)(pre post:Lv)(f:Nat):∀(p m y:Nat)(d:Li)(w:Wv),y-p<=f->Row w b off e pre post d->d.length=n->p<m->m<y->y<=n->n<=1099511627776->gZ b B w key->
  Srt.SortedOn key d p m->Srt.SortedOn key d m y->
  Calls prog 195 #[H (Z ⟨b,off,N⟩) n c,I J p,I J m,I J y,(.func (.func 173) #[] #[.pointer (Z ⟨B,0,N⟩)])] w (iZ (fun d'=>Srt.Done key d d' p y) b off e pre post w):=by
 induction f with
 |zero=>intro p m y d w hf _ _ h1 h2;omega
 |succ f ih=>
  intro p m y d w hf hR hn hpm hmy hy hbig hC hs1 hs2;by_cases h1:m=p+1
  ·subst h1
   have:=zAg b B off n c p y e key d pre post w hR hn hmy hy hbig hC hs2;rw[show((p+1:Nat):Int)=(p:Int)+1 by omega];exact this
  by_cases h2:y=m+1
  ·subst h2
   have:=zAh b B off n c p m e key d pre post w hR hn (by omega) hy hbig hC hs1;rw[show((m+1:Nat):Int)=(m:Int)+1 by omega];exact this
  exact zAi b B off n c p m y e key d pre post w (fun p' m' y' d' w' g1 g2 g3 g4 g5 g6 g7 g8 g9 g10=>ih p' m' y' d' w' (by omega) g1 g2 g3 g4 g5 g6 g7 g8 g9) hR hn hpm hmy hy hbig hC hs1 hs2 h1 h2
theorem zAc(b B off n c:Nat)(e:TypeId)(key:Int->Int)(d:Li)(pre post:Lv)(w:Wv)(hR:Row w b off e pre post d)(hn:d.length=n)(hbig:n<=1099511627776)(hC:gZ b B w key):
  Calls prog 188 #[H (Z ⟨b,off,N⟩) n c,I J n,.func (.func 173) #[] #[.pointer (Z ⟨B,0,N⟩)]] w
   (iZ (fun d'=>Srt.Done key d d' 0 n) b off e pre post w):=by
 subst hn;have HC:=G hC;clear hC;go_enter func188,ntmps188;go_wp2
 go_loopw [7,8] (fun u v wr=>∃(q a:Nat)(d1:Li),a=q*20/\a<=d.length/\u=I J a/\v=I J ((a:Int)+20)/\Srt.Same d d1 0 d.length/\Srt.St key d d1/\Srt.Pf key d1 20 q/\Row wr b off e pre post d1/\w.grownBy wr (Z b))
  (fun u _ _=>d.length-(intOf u).toNat)
 case atStart=>exact⟨0,0,d,rfl,Nat.zero_le _,rfl,rfl,Srt.Same.refl _ _ _,Srt.St.refl _,Srt.Pf.zero,hR,aO _ _⟩
 obtain⟨q,a,d1,haq,han,rfl,rfl,hsame,hst,hpf,hR1,hg⟩:=hrel;have HQ:=G haq;have HA:=G hsame;have HT:=G hst;have HP:=G hpf;clear haq hsame hst hpf;by_cases hlt:a+20<=d.length
 ·have C:=G (yF b B off d.length c a (a+20) e key d1 pre post wr hR1 HA.out.1 (by omega) hlt hbig (HC.out.later hg))
  rw[show((a+20:Nat):Int)=(a:Int)+20 by omega]at C;go_wp2_with fail;refine C.out.mono ?_;rintro e W1 ⟨rfl,d2,hD,hR2,hg2⟩;go_wp2_with fail;go_roundw
  case rel=>
   refine⟨q+1,a+20,d2,by rw[HQ.out];omega,hlt,by go_num,by go_num,HA.out.trans (hD.1.mono (Nat.zero_le _) hlt),HT.out.trans hD.2.1,?_,hR2,bF hg hg2⟩;have:=HQ.out;subst this;exact HP.out.succ hD.1 hD.2.2
  simp[intOf];omega
 have C:=G (yF b B off d.length c a d.length e key d1 pre post wr hR1 HA.out.1 han (Nat.le_refl _) hbig (HC.out.later hg));go_wp2_with fail;refine C.out.mono ?_;rintro e W1 ⟨rfl,d2,hD,hR2,hg2⟩;have hB0:Srt.Bl key d2 20 0 d.length:=by
  have:=HQ.out;subst this;exact Srt.Bl.of_pf HP.out han (by omega) hD.1 hD.2.2
 have HA2:=G (HA.out.trans (hD.1.mono (Nat.zero_le _) (Nat.le_refl _)));have HT2:=G (HT.out.trans hD.2.1);have HB:=G hB0;have hg3:=bF hg hg2;clear hB0 hD hg hg2 HA HT HP HQ hR1 C;go_wp2_with fail;go_loopw [6] (fun u wr=>∃(bs:Nat)(d3:Li),20<=bs/\bs<=2199023255552/\u=I J bs/\Srt.Same d d3 0 d.length/\Srt.St key d d3/\Srt.Bl key d3 bs 0 d.length/\Row wr b off e pre post d3/\w.grownBy wr (Z b)) (fun u _=>d.length-(intOf u).toNat)
 case atStart=>exact⟨20,d2,Nat.le_refl _,by omega,rfl,HA2.out,HT2.out,HB.out,hR2,hg3⟩
 obtain⟨bs,d3,hbs,hbs2,rfl,hsame,hst,hbl,hR3,hg4⟩:=hrel;have HA3:=G hsame;have HT3:=G hst;have HB3:=G hbl;clear hsame hst hbl HA2 HT2 HB hR2 hg3;by_cases hlt2:bs<d.length
 ·obtain⟨wo,rfl⟩:∃wo:Wv,wo=wr:=⟨_,rfl⟩
  go_wp2_with fail
  go_loopw [7,8] (fun u v wr=>∃(q a:Nat)(d4:Li),a=q*(2*bs)/\a<=d.length/\u=I J a/\v=I J ((a:Int)+2*(bs:Int))/\Srt.Same d d4 0 d.length/\Srt.St key d d4/\Srt.Pf key d4 (2*bs) q/\Srt.Bl key d4 bs a d.length/\
    Row wr b off e pre post d4/\w.grownBy wr (Z b)) (fun u _ _=>d.length-(intOf u).toNat)
  case atStart=>exact⟨0,0,d3,by simp,Nat.zero_le _,rfl,by go_num,HA3.out,HT3.out,Srt.Pf.zero,HB3.out,hR3,hg4⟩
  obtain⟨q,a,d4,haq,han,rfl,rfl,hsame,hst,hpf,hbl,hR4,hg5⟩:=hrel;have HQ:=G haq;have HA:=G hsame;have HT:=G hst;have HP:=G hpf;have HB:=G hbl;clear haq hsame hst hpf hbl HA3 HT3 HB3 hR3 hg4;have s1:Srt.SortedOn key d4 a (min (a+bs) d.length):=HB.out.first
  have s2:Srt.SortedOn key d4 (a+bs) (min (a+bs+bs) d.length):=HB.out.next.first
  have S1:=G s1;have S2:=G s2;clear s1 s2;by_cases hlt3:a+2*bs<=d.length
  ·have C:=G (DI b B off d.length c e key pre post _ a (a+bs) (a+2*bs) d4 wr (Nat.le_refl _) hR4 HA.out.1 (by omega) (by omega) hlt3 hbig (HC.out.later hg5)
    (S1.out.sub (Nat.le_refl _) (by omega)) (S2.out.sub (Nat.le_refl _) (by omega)))
   rw[show((a+bs:Nat):Int)=(a:Int)+(bs:Int) by omega,show((a+2*bs:Nat):Int)=(a:Int)+2*(bs:Int) by omega]at C;go_wp2_with fail;refine C.out.mono ?_;rintro e W4 ⟨rfl,d5,hD,hR5,hg6⟩;go_wp2_with fail;go_roundw
   case rel=>
    refine⟨q+1,a+2*bs,d5,by rw[HQ.out,Nat.add_mul,Nat.one_mul],hlt3,by go_num,by go_num,HA.out.trans (hD.1.mono (Nat.zero_le _) hlt3),HT.out.trans hD.2.1,?_,?_,hR5,bF hg5 hg6⟩
    ·have:=HQ.out
     subst this;exact HP.out.succ hD.1 hD.2.2
    have:=HB.out.next.next;rw[show a+bs+bs=a+2*bs by omega]at this;exact this.same hD.1 (Nat.le_refl _)
   simp[intOf];omega
  by_cases hlt4:a+bs<d.length
  ·have C:=G (DI b B off d.length c e key pre post _ a (a+bs) d.length d4 wr (Nat.le_refl _) hR4 HA.out.1 (by omega) hlt4 (Nat.le_refl _) hbig (HC.out.later hg5)
    (S1.out.sub (Nat.le_refl _) (by omega)) (S2.out.sub (Nat.le_refl _) (by omega)))
   rw[show((a+bs:Nat):Int)=(a:Int)+(bs:Int) by omega]at C;go_wp2_with fail;refine C.out.mono ?_;rintro e W4 ⟨rfl,d5,hD,hR5,hg6⟩;go_wp2_with fail;go_roundw
   case rel=>
    refine⟨bs*2,d5,by omega,by omega,by go_num,HA.out.trans (hD.1.mono (Nat.zero_le _) (Nat.le_refl _)),HT.out.trans hD.2.1,?_,hR5,bF hg5 hg6⟩;have:=HQ.out;subst this;rw[Nat.mul_comm bs 2];exact Srt.Bl.of_pf HP.out han (by omega) hD.1 hD.2.2
   simp[intOf];omega
  go_wp2_with fail;go_roundw
  case rel=>
   refine⟨bs*2,d4,by omega,by omega,by go_num,HA.out,HT.out,?_,hR4,hg5⟩;have:=HQ.out;subst this;rw[Nat.mul_comm bs 2];exact Srt.Bl.of_pf HP.out han (by omega) (Srt.Same.refl _ _ _) (S1.out.sub (Nat.le_refl _) (by omega))
  simp[intOf];omega
 go_wp2_with fail;go_end0;exact⟨rfl,d3,⟨HA3.out,HT3.out,HB3.out.all (by omega)⟩,hR3,hg4⟩
theorem GB(b B off n c:Nat)(e:TypeId)(key:Int->Int)(d:Li)(pre post:Lv)(w:Wv)(hR:Row w b off e pre post d)(hn:d.length=n)(hbig:n<=1099511627776)(hC:gZ b B w key):
  Calls prog 172 #[H (Z ⟨b,off,N⟩) n c,.func (.func 173) #[] #[.pointer (Z ⟨B,0,N⟩)]] w
   (iZ (fun d'=>Srt.Done key d d' 0 n) b off e pre post w):=by
 have C:=G (zAc b B off n c e key d pre post w hR hn hbig hC);clear hR hn hC;go_enter func172,ntmps172;go_wp2_with fail;refine C.out.mono ?_;rintro e W4 ⟨rfl,d5,hD,hR5,hg6⟩;go_wp2_with fail;go_end0;exact⟨rfl,d5,hD,hR5,hg6⟩
theorem ZW(B:Nat)(A':Oa)(ns ks:Nat)(ss:List Spn)(x y:Int)(W:Wv)(hc:W.cell? ⟨B,0,N⟩=Z (H A' ns ks))(hS:aZ W A' ss)(hns:ss.length=ns)(hb2:ns<=1099511627776)(hasc:Asc ss):
  Calls prog 173 #[I J x,I J y,.pointer (Z ⟨B,0,N⟩)] W (uT (cls ss x<cls ss y) W):=by
 have HA:=G hasc;clear hasc;subst hns;have hlt:B<W.heap.size:=World.block_lt_of_cell? W _ hc;have hSd:aZ W.drew A' ss:=hS;go_enter func173,ntmps173;go_wp2
 go_region_with (first
  |(go_at_call 88;(with_reducible refine(kF _ _ _).mono ?_);rintro e w' ⟨rfl,rfl⟩)
  |(go_at_call 135;(with_reducible refine(rR A' ss.length ks ss _ _ hS1 rfl hb2 HA.out).mono ?_);rintro e w2 ⟨rfl,hb2'⟩;clear hS1)
  | (go_at_call 135;(with_reducible refine(rR A' ss.length ks ss _ _ hSd rfl hb2 HA.out).mono ?_);rintro e w1 ⟨rfl,hb1⟩;have hc1:w1.cell? ⟨B,0,N⟩=Z (H A' ss.length ks):=(hb1.cell (p:=⟨B,0,N⟩) hlt).trans hc;have hS1:aZ w1 A' ss:=aZ.below (w:=W.drew) hSd hb1))
 all_goals
  go_wp2;go_ret;refine⟨_,rfl,?_,((Below.drew (Below.refl _ W)).trans hb1).trans (hb2'.mono hb1.size)⟩;unfold cB;split
  ·simp[*]
  split<;>simp[*]
theorem JT{b B:Nat}{A':Oa}{ns ks:Nat}{ss:List Spn}{w:Wv}(hc:w.cell? ⟨B,0,N⟩=Z (H A' ns ks))(hS:aZ w A' ss)(hns:ss.length=ns)(hb2:ns<=1099511627776)(hasc:Asc ss)
  (hB:B≠b) (hA:ss≠[]->∀o,A'≠Z ⟨b,o,N⟩):gZ b B w (cls ss):=by
 intro W hg x y;have hcell:∀p:Addr,p.block<w.heap.size->p.block≠b->W.cell? p=w.cell? p:=fun p h1 h2=>World.cell?_of_block (w:=w) (hg.block p.block h1 (fun e=>h2 (by injection e)))
 refine ZW B A' ns ks ss x y W ?_ ?_ hns hb2 hasc
 ·rw[hcell _ (World.block_lt_of_cell? w _ hc) hB];exact hc
 intro hne;obtain⟨b',o',rfl,hcs⟩:=hS hne;refine⟨b',o',rfl,fun j u hu=>?_⟩;have h1:=hcs j u hu;rw[hcell _ (World.block_lt_of_cell? w _ h1) (by rintro rfl;exact hA (by rintro rfl;exact hne rfl) o' rfl)];exact h1
end
namespace Srt
def Stp{α:Type}(key:α->Int):List α->List (Nat×Nat)->List α->Prop
 |d,[],d'=>d'=d
 |d,r::rs,d'=>∃d1,Done key d d1 r.1 r.2/\Stp key d1 rs d'
theorem Stp.snoc{α:Type}{key:α->Int}{d d1 d2:List α}{rs:List (Nat×Nat)}{r:Nat×Nat}(h:Stp key d rs d1)(hd:Done key d1 d2 r.1 r.2):Stp key d (rs++[r]) d2:=by
 induction rs generalizing d with
 |nil=>cases h;exact⟨d2,hd,rfl⟩
 |cons a rs ih=>obtain⟨x,h1,h2⟩:=h;exact⟨x,h1,ih h2⟩
theorem Stp.len{α:Type}{key:α->Int}{d d1:List α}{rs:List (Nat×Nat)}(h:Stp key d rs d1):d1.length=d.length:=by
 induction rs generalizing d with
 |nil=>cases h;rfl
 |cons a rs ih=>obtain⟨x,h1,h2⟩:=h;exact(ih h2).trans h1.1.1
theorem Done.lift{α:Type}{key:α->Int}{p s s' q:List α}(h:Done key s s' 0 s.length):Done key (p++s++q) (p++s'++q) p.length (p.length+s.length):=by
 obtain⟨⟨hl,hs⟩,ht,ho⟩:=h;refine⟨⟨by simp[hl],fun t ht=>?_⟩,St.append (St.append (St.refl _) ht) (St.refl _),fun i j h1 h2 h3=>?_⟩
 ·simp only[List.getElem?_append,List.length_append,hl]
  by_cases c1:t<p.length
  ·rw[if_pos (by omega),if_pos c1,if_pos (by omega),if_pos c1]
  rw[if_neg (by omega),if_neg (by omega)]
 have e:∀t,p.length<=t->t<p.length+s.length->kf key (p++s'++q) t=kf key s' (t-p.length):=by
  intro t g1 g2;unfold kf;rw[List.append_assoc,List.getElem?_append_right g1,List.getElem?_append_left (by omega)]
 rw[e i h1 (by omega),e j (by omega) h3];exact ho _ _ (by omega) (by omega) (by omega)
end Srt
namespace Can
section
variable (cl:Int->Int)
def F(k:Int)(l:Li):Li:=l.filter fun x=>cl x==k||cl x==0
def Inv(a b:Li):Prop:=∀k,F cl k a=F cl k b
def Ok:Li->Prop
 | []=>True
 | [_]=>True
 |x::y::r=>(cl y≠0->cl x<=cl y)/\Ok (y::r)
def insF(c:Int):Li->Li
 | []=>[c]
 |y::r=>if cl y≠0/\cl y<cl c then y::insF c r else c::y::r
def srt:Li->Li
 | []=>[]
 |c::r=>insF cl c (srt r)
def Z(l:Li):List (Option Int):=l.map fun x=>if cl x=0 then some x else N
end
section
variable {cl:Int->Int}
theorem F_append(k:Int)(a b:Li):F cl k (a++b)=F cl k a++F cl k b:=by simp[F]
theorem F_cons(k x:Int)(l:Li):F cl k (x::l)=if cl x=k\/cl x=0 then x::F cl k l else F cl k l:=by
 by_cases h:cl x=k\/cl x=0
 ·rw[if_pos h];exact List.filter_cons_of_pos (by simpa using h)
 rw[if_neg h];exact List.filter_cons_of_neg (by simpa using h)
theorem Inv.refl(a:Li):Inv cl a a:=fun _=>rfl
theorem Inv.symm{a b:Li}(h:Inv cl a b):Inv cl b a:=fun k=>(h k).symm
theorem Inv.trans{a b c:Li}(h:Inv cl a b)(g:Inv cl b c):Inv cl a c:=fun k=>(h k).trans (g k)
theorem Inv.append{a b c d:Li}(h:Inv cl a b)(g:Inv cl c d):Inv cl (a++c) (b++d):=fun k=>by rw[F_append,F_append,h k,g k]
theorem Inv.cons(x:Int){a b:Li}(h:Inv cl a b):Inv cl (x::a) (x::b):=fun k=>by rw[F_cons,F_cons,h k]
theorem Inv.swap{x y:Int}(l:Li)(hx:cl x≠0)(hy:cl y≠0)(hne:cl x≠cl y):Inv cl (x::y::l) (y::x::l):=fun k=>by
 simp only[F_cons];by_cases h1:cl x=k
 ·rw[if_pos (c:=cl x=k\/cl x=0) (.inl h1),if_pos (c:=cl x=k\/cl x=0) (.inl h1),if_neg (by omega),if_neg (by omega)]
 rw[if_neg (c:=cl x=k\/cl x=0) (by omega),if_neg (c:=cl x=k\/cl x=0) (by omega)]
theorem Ok.tail{x:Int}{l:Li}(h:Ok cl (x::l)):Ok cl l:=by
 cases l with
 |nil=>trivial
 |cons y r=>exact h.2
theorem Ok.first{k:Int}{l:Li}{x:Int}{r:Li}(h:Ok cl l)(hk:cl x≠0)(e:F cl k l=x::r)(y:Int)(t:Li)(hl:l=y::t):cl y<=cl x:=by
 induction l generalizing y t with
 |nil=>cases hl
 |cons z l ih=>
  obtain⟨rfl,rfl⟩:z=y/\l=t:=by simpa using hl
  rw[F_cons]at e;split at e
  ·injection e with e1 _;rw[e1];exact Int.le_refl _
  cases l with
  |nil=>simp[F]at e
  |cons u v=>
   have h1:=ih h.tail e u v rfl;by_cases hu:cl u=0
   ·rw[F_cons,if_pos (.inr hu)]at e
    injection e with e1 _;rw[e1]at hu;exact absurd hu hk
   have:=h.1 hu;omega
theorem canon_unique:∀{a b:Li},Inv cl a b->Ok cl a->Ok cl b->a=b
 | [],[],_,_,_=>rfl
 | [],y::b,h,_,_=>by have:=h (cl y);rw[F_cons,if_pos (.inl rfl)]at this;cases this
 |x::a,[],h,_,_=>by have:=h (cl x);rw[F_cons,if_pos (.inl rfl)]at this;cases this
 |x::a,y::b,h,ha,hb=>by
  have hxy:x=y:=by
   by_cases hx:cl x=0
   ·have e:=h (cl y)
    rw[F_cons,if_pos (.inr hx),F_cons,if_pos (.inl rfl)]at e;injection e
   by_cases hy:cl y=0
   ·have e:=h (cl x)
    rw[F_cons,if_pos (.inl rfl),F_cons,if_pos (.inr hy)]at e;injection e
   have e1:=h (cl x);rw[F_cons,if_pos (.inl rfl)]at e1;have h1:=hb.first hx e1.symm y b rfl
   have e2:=h (cl y);rw[F_cons (l:=b),if_pos (.inl rfl)]at e2;have h2:=ha.first hy e2 x a rfl
   have e3:cl x=cl y:=by omega
   rw[F_cons,if_pos (.inl e3.symm)]at e1;injection e1
  subst hxy
  have:=canon_unique (a:=a) (b:=b) (fun k=>by
   have e:=h k
   rw[F_cons,F_cons]at e
   split at e
   ·injection e
   ·exact e) ha.tail hb.tail
  rw[this]
theorem insF_inv(hcl:∀x,0<=cl x)(c:Int)(l:Li):Inv cl (c::l) (insF cl c l):=by
 induction l with
 |nil=>exact Inv.refl _
 |cons y r ih=>
  unfold insF;split
  ·rename_i h
   exact(Inv.swap r (by have:=hcl y;omega) h.1 (by omega)).trans (ih.cons y)
  exact Inv.refl _
theorem insF_head(c:Int)(l:Li):∃y r,insF cl c l=y::r/\(y=c\/∃t,l=y::t):=by
 cases l with
 |nil=>exact⟨c,[],rfl,.inl rfl⟩
 |cons y r=>
  unfold insF;split
  ·exact⟨y,_,rfl,.inr ⟨r,rfl⟩⟩
  exact⟨c,_,rfl,.inl rfl⟩
theorem insF_ok(c:Int)(l:Li)(h:Ok cl l):Ok cl (insF cl c l):=by
 induction l with
 |nil=>trivial
 |cons y r ih=>
  unfold insF;split
  ·rename_i hc
   obtain⟨z,t,hz,hor⟩:=insF_head (cl:=cl) c r;have:=ih h.tail;rw[hz]at this|-;refine⟨fun hne=>?_,this⟩;rcases hor with rfl|⟨t',rfl⟩
   ·omega
   exact h.1 hne
  rename_i hc;exact⟨fun hne=>by by_cases g:cl y<cl c;exact absurd ⟨hne,g⟩ hc;omega,h⟩
theorem insF_perm(c:Int)(l:Li):(insF cl c l).Perm (c::l):=by
 induction l with
 |nil=>exact .refl _
 |cons y r ih=>
  unfold insF;split
  ·exact(ih.cons y).trans (.swap c y r)
  exact .refl _
theorem srt_inv(hcl:∀x,0<=cl x)(l:Li):Inv cl l (srt cl l):=by
 induction l with
 |nil=>exact Inv.refl _
 |cons c r ih=>exact(ih.cons c).trans (insF_inv hcl c _)
theorem srt_ok(l:Li):Ok cl (srt cl l):=by
 induction l with
 |nil=>trivial
 |cons c r ih=>exact insF_ok c _ ih
theorem srt_perm(l:Li):(srt cl l).Perm l:=by
 induction l with
 |nil=>exact .refl _
 |cons c r ih=>exact(insF_perm c _).trans (ih.cons c)
theorem srt_len(l:Li):(srt cl l).length=l.length:=(srt_perm l).length_eq
theorem srt_eq(hcl:∀x,0<=cl x){l d:Li}(h:Inv cl l d)(ho:Ok cl d):d=srt cl l:=canon_unique (h.symm.trans (srt_inv hcl l)) ho (srt_ok l)
theorem srt_of_inv(hcl:∀x,0<=cl x){a b:Li}(h:Inv cl a b):srt cl a=srt cl b:=srt_eq hcl (h.symm.trans (srt_inv hcl a)) (srt_ok a)
theorem inv_of_srt(hcl:∀x,0<=cl x){a b:Li}(h:srt cl a=srt cl b):Inv cl a b:=(srt_inv hcl a).trans (by rw[h];exact(srt_inv hcl b).symm)
theorem Ok.append{a b:Li}(ha:Ok cl a)(hb:Ok cl b)(h:∀y t,b=y::t->cl y=0):Ok cl (a++b):=by
 induction a with
 |nil=>exact hb
 |cons x a ih=>
  cases a with
  |nil=>
   cases b with
   |nil=>trivial
   |cons y t=>exact⟨fun hne=>absurd (h y t rfl) hne,hb⟩
  |cons x' a'=>exact⟨ha.1,ih ha.2⟩
theorem exchange(hcl:∀x,0<=cl x)(p q:Li)(x y:Int):srt cl (p++x::y::q)=srt cl (p++y::x::q) ↔ (cl x≠0/\cl y≠0/\cl x≠cl y)\/x=y:=by
 constructor
 ·intro h
  by_cases hxy:x=y
  ·exact .inr hxy
  refine .inl ?_;have hi:=inv_of_srt hcl h;have key:∀k,(cl x=k\/cl x=0)->(cl y=k\/cl y=0)->False:=by
   intro k h1 h2;have e:=hi k;rw[F_append,F_append,F_cons,F_cons,F_cons,F_cons]at e;simp only[if_pos h1,if_pos h2]at e;have e2:=List.append_cancel_left e;simp only[List.cons.injEq]at e2;exact hxy e2.1
  exact⟨fun h0=>key (cl y) (.inr h0) (.inl rfl),fun h0=>key (cl x) (.inl rfl) (.inr h0),fun h0=>key (cl x) (.inl rfl) (.inl h0.symm)⟩
 rintro(⟨h1,h2,h3⟩|rfl)
 ·exact srt_of_inv hcl ((Inv.refl p).append (Inv.swap q h1 h2 h3))
 rfl
end
section
open Srt
variable {cl:Int->Int}
theorem inv_of_st{s s':Li}(h:St cl s s')(hz:∀x∈s,cl x≠0):Inv cl s s':=by
 have h0:s'.filter (fun x=>cl x==0)=[]:=by
  rw[h 0];exact List.filter_eq_nil_iff.2 fun x hx=>by simpa using hz x hx
 have hz':∀x∈s',cl x≠0:=fun x hx e=>by
  have:x∈s'.filter (fun x=>cl x==0):=List.mem_filter.2 ⟨hx,by simpa using e⟩;rw[h0]at this;cases this
 intro k
 have e:∀l:Li,(∀x∈l,cl x≠0)->F cl k l=l.filter (fun x=>cl x==k):=fun l hl=>by
  unfold F;refine List.filter_congr fun x hx=>?_
  have:=hl x hx;simp[this]
 rw[e s hz,e s' hz',h k]
theorem ok_of_sorted{s:Li}(h:SortedOn cl s 0 s.length):Ok cl s:=by
 induction s with
 |nil=>trivial
 |cons x s ih=>
  have ht:SortedOn cl s 0 s.length:=fun i j _ h2 h3=>by
   have:=h (i+1) (j+1) (by omega) (by omega) (by simpa using h3);simpa[kf]using this
  cases s with
  |nil=>trivial
  |cons y r=>
   refine⟨fun _=>?_,ih ht⟩;have:=h 0 1 (by omega) (by omega) (by simp);simpa[kf]using this
theorem done_cut{p o q d:Li}{s i:Nat}(hs:p.length=s)(hi:s+o.length=i)(h:Done cl (p++o++q) d s i):
  ∃o',d=p++o'++q/\o'.length=o.length/\St cl o o'/\SortedOn cl o' 0 o'.length:=by
 obtain⟨⟨hl,hsame⟩,hst,hso⟩:=h;refine⟨(d.drop s).take o.length,?_,?_,?_,?_⟩
 case _=>
  apply List.ext_getElem?;intro t;have hlen:((d.drop s).take o.length).length=o.length:=by simp at hl|-;omega
  by_cases c1:t<s
  ·rw[hsame t (.inl c1),List.append_assoc,List.append_assoc,List.getElem?_append_left (by omega),List.getElem?_append_left (by omega)]
  by_cases c2:t<i
  ·rw[List.append_assoc,List.getElem?_append_right (by omega),List.getElem?_append_left (by omega),List.getElem?_take,if_pos (by omega),List.getElem?_drop]
   congr 1;omega
  rw[hsame t (.inr (by omega)),List.append_assoc,List.append_assoc,List.getElem?_append_right (by omega),List.getElem?_append_right (by omega),List.getElem?_append_right (by omega),List.getElem?_append_right (by omega),hlen]
 case _=>simp at hl|-;omega
 all_goals
  have hd:d=p++(d.drop s).take o.length++q:=by
   apply List.ext_getElem?;intro t;have hlen:((d.drop s).take o.length).length=o.length:=by simp at hl|-;omega
   by_cases c1:t<s
   ·rw[hsame t (.inl c1),List.append_assoc,List.append_assoc,List.getElem?_append_left (by omega),List.getElem?_append_left (by omega)]
   by_cases c2:t<i
   ·rw[List.append_assoc,List.getElem?_append_right (by omega),List.getElem?_append_left (by omega),List.getElem?_take,if_pos (by omega),List.getElem?_drop]
    congr 1;omega
   rw[hsame t (.inr (by omega)),List.append_assoc,List.append_assoc,List.getElem?_append_right (by omega),List.getElem?_append_right (by omega),List.getElem?_append_right (by omega),List.getElem?_append_right (by omega),hlen]
  have hlen:((d.drop s).take o.length).length=o.length:=by simp at hl|-;omega
  generalize (d.drop s).take o.length=o' at *;subst hd
 ·intro k
  have:=hst k;simp only[List.filter_append,List.append_assoc]at this;have:=List.append_cancel_left this;exact List.append_cancel_right this
 intro a b h1 h2 h3;have e:∀t,t<o'.length->kf cl (p++o'++q) (s+t)=kf cl o' t:=by
  intro t ht;unfold kf;rw[List.append_assoc,List.getElem?_append_right (by omega),List.getElem?_append_left (by omega),show s+t-p.length=t by omega]
 rw[<-e a (by omega),<-e b h3];exact hso _ _ (by omega) (by omega) (by omega)
theorem stp_canon(hcl:∀x,0<=cl x)(rest:Li):
  (∀(p d:Li),Stp cl (p++rest) (rns cl rest p.length N) d->∃d1,d=p++d1/\Inv cl rest d1/\Ok cl d1)/\
  (∀(p o d:Li),(∀x∈o,cl x≠0)->Stp cl (p++o++rest) (rns cl rest (p.length+o.length) (some p.length)) d->∃d1,d=p++d1/\Inv cl (o++rest) d1/\Ok cl d1):=by
 induction rest with
 |nil=>
  refine⟨fun p d h=>?_,fun p o d ho h=>?_⟩
  ·cases h;exact⟨[],rfl,Inv.refl _,trivial⟩
  obtain⟨d1,hd,rfl⟩:=h;obtain⟨o',rfl,h1,h2,h3⟩:=done_cut rfl rfl hd;exact⟨o',by simp,by rw[List.append_nil];exact inv_of_st h2 ho,ok_of_sorted h3⟩
 |cons c r ih=>
  refine⟨fun p d h=>?_,fun p o d ho h=>?_⟩
  ·unfold rns at h
   by_cases hc:cl c=0
   ·rw[if_pos hc]at h
    obtain⟨d1,rfl,h1,h2⟩:=ih.1 (p++[c]) d (by simpa using h);refine⟨c::d1,by simp,h1.cons c,?_⟩;cases d1 with
    |nil=>trivial
    |cons y t=>exact⟨fun _=>by have:=hcl y;omega,‹_›⟩
   rw[if_neg hc]at h;obtain⟨d1,rfl,h1,h2⟩:=ih.2 p [c] d (by simpa using hc) (by simpa using h);exact⟨d1,rfl,by simpa using h1,h2⟩
  unfold rns at h;by_cases hc:cl c=0
  ·rw[if_pos hc]at h
   obtain⟨d1,hd,h⟩:=h;obtain⟨o',rfl,h1,h2,h3⟩:=done_cut rfl rfl hd;obtain⟨d2,rfl,h4,h5⟩:=ih.1 (p++o'++[c]) d (by simpa[h1,Nat.add_assoc]using h);refine⟨o'++c::d2,by simp,(inv_of_st h2 ho).append (h4.cons c),(ok_of_sorted h3).append ?_ (fun y t e=>by injection e with e1 _;rw[<-e1];exact hc)⟩;cases d2 with
   |nil=>trivial
   |cons y t=>exact⟨fun _=>by have:=hcl y;omega,‹_›⟩
  rw[if_neg hc]at h;obtain⟨d1,rfl,h1,h2⟩:=ih.2 p (o++[c]) d (by simpa[or_imp,forall_and]using⟨ho,hc⟩) (by simpa[Nat.add_assoc]using h);exact⟨d1,rfl,by simpa using h1,h2⟩
theorem stp_srt(hcl:∀x,0<=cl x){text d:Li}(h:Stp cl text (rns cl text 0 N) d):d=srt cl text:=by
 obtain⟨d1,rfl,h1,h2⟩:=(stp_canon hcl text).1 [] d h;exact srt_eq hcl h1 h2
end
end Can
section
open Go.RowKit Go.Shelf
attribute [local go_sem] Oper.semAt_some
theorem tT{w:Wv}{base:Nat}{e:TypeId}{A:Oa}{n c:Nat}{d:Li}(h:w.ownsRow base e 1 (H A n c) n (d.map (Value.int .i64)))(hn:0<n):
  ∃g post,A=Z ⟨g,0,N⟩/\base<=g/\Row w g 0 e [] post d/\d.length=n/\n+post.length=c/\c<=maxLen:=by
 obtain⟨h1,h2⟩:=h;rcases h2 with⟨hv,rfl⟩|⟨g,cap,cur,hv,hb,hg,hnc,hcm,hcur,htake⟩
 ·omega
 injection hv with hA _ hc;subst hA;subst hc;simp only[Nat.mul_one,List.length_map]at *;refine⟨g,cur.toList.drop n,rfl,hb,⟨rfl,?_⟩,h1,by simp;omega,hcm⟩;unfold Blk;rw[List.nil_append,<-htake,List.take_append_drop];exact hg
theorem BK{w:Wv}{base g n c:Nat}{e:TypeId}{post:Lv}{d:Li}(h:Row w g 0 e [] post d)(hb:base<=g)(hn:d.length=n)(hc:n+post.length=c)(hcm:c<=maxLen):
  w.ownsRow base e 1 (H (Z ⟨g,0,N⟩) n c) n (d.map (Value.int .i64)):=by
 refine⟨by simp[hn],.inr ⟨g,c,_,rfl,hb,h.2,by omega,hcm,by simp;omega,?_⟩⟩;simp[<-hn]
theorem Row.cut{w:Wv}{g:Nat}{e:TypeId}{post:Lv}{d:Li}(h:Row w g 0 e [] post d){lo hi:Nat}(h1:lo<=hi)(h2:hi<=d.length):
  Row w g lo e ((d.take lo).map (Value.int .i64)) ((d.drop hi).map (Value.int .i64)++post) ((d.drop lo).take (hi-lo)):=by
 refine⟨by simp;omega,?_⟩;have:=h.2;unfold Blk at this|-;rw[this];congr 2;have hp:=Srt.parts d lo lo hi (Nat.le_refl _) h1;simp only[Nat.sub_self,List.take_zero,List.nil_append]at hp;rw[List.nil_append];conv=>lhs;rw[hp]
 simp
theorem Row.uncut{w:Wv}{g lo:Nat}{e:TypeId}{post:Lv}{p s q:Li}(h:Row w g lo e (p.map (Value.int .i64)) (q.map (Value.int .i64)++post) s):Row w g 0 e [] post (p++s++q):=by
 refine⟨rfl,?_⟩;have:=h.2;unfold Blk at this|-;rw[this];simp
theorem YJ(cl:Int->Int)(l:Li)(i:Nat)(s:Option Nat)(hs:∀x,s=Z x->x<i):∀r∈rns cl l i s,r.1<r.2/\r.2<=i+l.length:=by
 induction l generalizing i s with
 |nil=>
  cases s with
  |none=>intro r hr;cases hr
  |some s=>intro r hr;simp only[rns,List.mem_singleton]at hr;subst hr;have:=hs s rfl;simp;omega
 |cons c t ih=>
  have h1:=ih (i+1) N (fun _ h=>by cases h);have h2:=ih (i+1) (Z i) (fun x h=>by cases h;omega);cases s with
  |none=>
   intro r hr;simp only[rns]at hr;simp only[List.length_cons];split at hr
   ·have:=h1 r hr;omega
   have:=h2 r hr;omega
  |some s=>
   have hs':=hs s rfl;have h3:=ih (i+1) (Z s) (fun x h=>by cases h;omega);intro r hr;simp only[rns]at hr;simp only[List.length_cons];split at hr
   ·simp only[List.mem_cons]at hr
    rcases hr with rfl|hr
    ·simp;omega
    have:=h1 r hr;omega
   have:=h3 r hr;omega
abbrev RgN(n:Nat):={ x:Nat×Nat // x.1<x.2/\x.2<=n }
theorem XU{n:Nat}(l:List (Nat×Nat))(h:∀r∈l,r.1<r.2/\r.2<=n):∃all:List (RgN n),all.map (fun x=>x.1)=l:=by
 induction l with
 |nil=>exact⟨[],rfl⟩
 |cons x l ih=>
  obtain⟨all,ha⟩:=ih fun r hr=>h r (List.mem_cons_of_mem _ hr)
  exact⟨⟨x,h x (List.mem_cons_self ..)⟩::all,by rw[List.map_cons,ha]⟩
theorem vZ{W W':Wv}{row:Option Nat}(hg:W.grownBy W' row)(hr:∀r,row=Z r->∃o:Obj,W.heap[r]?=Z o/\o.isCells=false){p:Addr}{v:Value}(h:W.cell? p=Z v):W'.cell? p=Z v:=by
 have hlt:=World.block_lt_of_cell? W p h;refine(World.cell?_of_block (w:=W) (hg.block p.block hlt fun e=>?_)).trans h;obtain⟨o,ho,hc⟩:=hr p.block e.symm;unfold World.cell? at h;rw[ho]at h;cases o with
 |cells c t f=>cases hc
 |_=>simp at h
theorem Sl.grown{W W':Wv}{row:Option Nat}{A:Oa}{cs:Lv}(h:Sl W A cs)(hg:W.grownBy W' row)(hr:∀r,row=Z r->∃o:Obj,W.heap[r]?=Z o/\o.isCells=false):Sl W' A cs:=by
 intro hne;obtain⟨b,o,rfl,hc⟩:=h hne;exact⟨b,o,rfl,fun j u hu=>vZ hg hr (hc j u hu)⟩
structure h_(key:Int->Int)(text:Li)(base Bo Bl:Nat)(A:Oa)(n c:Nat)(A1:Oa)(n1 k1:Nat)(ts:List Spn)(w:Wv)(pre:List (Nat×Nat))(W:Wv):Prop where
 box:Boxed W Bo 49 (H A n c)
 row:∃d,W.ownsRow base 3 1 (H A n c) n (d.map (Value.int .i64))/\Srt.Stp key text pre d
 l:W.cell? ⟨Bl,0,N⟩=Z (H A1 n1 k1)
 sp:aZ W A1 ts
 bel:By w W
theorem h_.own{key:Int->Int}{text:Li}{base Bo Bl:Nat}{A:Oa}{n c:Nat}{A1:Oa}{n1 k1:Nat}{ts:List Spn}{w:Wv}{β:Type}(f:β->List (Nat×Nat)){B:Nat}(hB:w.heap.size<=B):
  OwnFrom B (fun s W=>h_ key text base Bo Bl A n c A1 n1 k1 ts w (f s) W):=by
 intro s X Y row h hg hr;have hr':∀r,row=Z r->∃o:Obj,X.heap[r]?=Z o/\o.isCells=false:=fun r e=>(hr r e).2
 refine⟨h.box.kept hg (fun e'=>?_),?_,vZ hg hr' h.l,Sl.grown h.sp hg hr',?_⟩
 ·obtain⟨o,ho,hc⟩:=hr' Bo e'.symm
  rw[show X.heap[Bo]?=_ from h.box]at ho;cases ho;cases hc
 ·obtain⟨d,hd,hs⟩:=h.row
  refine⟨d,hd.kept hg ?_,hs⟩;rcases hd.2 with⟨hv,_⟩|⟨g,cap,cur,hv,_,hgb,_⟩
  ·rw[hv];exact .inl rfl
  rw[hv];refine .inr fun e'=>?_
  obtain⟨o,ho,hc⟩:=hr' g (by simpa[Value.ownBlock]using e'.symm);rw[hgb]at ho;cases ho;cases hc
 exact h.bel.grown hg h.bel.size (fun k e=>Nat.le_trans hB (hr k e).1)
theorem h_.alloc{key:Int->Int}{text:Li}{base Bo Bl:Nat}{A:Oa}{n c:Nat}{A1:Oa}{n1 k1:Nat}{ts:List Spn}{w W:Wv}{pre:List (Nat×Nat)}(h:h_ key text base Bo Bl A n c A1 n1 k1 ts w pre W)(o:Obj):h_ key text base Bo Bl A n c A1 n1 k1 ts w pre (W.alloc o):=
 OwnFrom.alloc (h_.own (fun s:List (Nat×Nat)=>s) (B:=w.heap.size) (Nat.le_refl _)) (s:=pre) o h
end
section
open Go.RowKit
def RvK(d d':Li)(i:Nat):Prop:=d'.length=d.length/\∀k,k<d.length->d'[k]?=if k<i\/d.length-1-k<i then d[d.length-1-k]? else d[k]?
theorem RvK.zero(d:Li):RvK d d 0:=⟨rfl,fun k _=>by rw[if_neg (by omega)]⟩
theorem RvK.done{d d':Li}{i:Nat}(h:RvK d d' i)(hi:d.length<=2*i+1)(_h2:2*i<=d.length):d'=d.reverse:=by
 refine List.ext_getElem? fun k=>?_
 by_cases hk:k<d.length
 ·rw[h.2 k hk,List.getElem?_reverse hk]
  split
  ·rfl
  congr 1;omega
 rw[List.getElem?_eq_none (by rw[h.1];omega),List.getElem?_eq_none (by rw[List.length_reverse];omega)]
theorem RvK.step{d d':Li}{i j:Nat}(h:RvK d d' i)(hij:i<j)(hj:j=d.length-1-i)(h2:2*i<=d.length){x y:Int}(hx:d'[i]?=Z x)(hy:d'[j]?=Z y):RvK d ((d'.set i y).set j x) (i+1):=by
 have hl:=h.1;have hx':=h.2 i (by omega);have hy':=h.2 j (by omega);rw[if_neg (by omega)]at hx' hy';refine⟨by simp[hl],fun k hk=>?_⟩;rw[List.getElem?_set,List.length_set,hl];by_cases e1:j=k
 ·subst e1
  rw[if_pos rfl,if_pos (by omega),if_pos (by omega),<-hx,hx'];congr 1;omega
 rw[if_neg e1,List.getElem?_set,hl];by_cases e2:i=k
 ·subst e2
  rw[if_pos rfl,if_pos (by omega),if_pos (by omega),<-hy,hy'];congr 1
 rw[if_neg e2,h.2 k hk];by_cases c:k<i\/d.length-1-k<i
 ·rw[if_pos c,if_pos (by omega)]
 rw[if_neg c,if_neg (by omega)]
theorem XO(A:Oa)(c:Nat)(w:Wv):Calls prog 144 #[H A 0 c] w (fun e w'=>e=.returned (.tuple #[])/\w=w'):=by
 go_enter func144,ntmps144;go_wp2_with fail;go_loopw [2,3] (fun u v wr=>u=I J 0/\v=I J (-1)/\wr=w) (fun u _ _=>0-(intOf u).toNat)
 case atStart=>exact⟨rfl,rfl,rfl⟩
 obtain⟨rfl,rfl,rfl⟩:=hrel;go_wp2_with fail;go_end0;exact⟨rfl,rfl⟩
theorem XQ(b off c:Nat)(pre post:Lv)(d:Li)(w:Wv)(h:Row w b off 3 pre post d)(hpos:0<d.length)(hbig:d.length<=1099511627776):
  Calls prog 144 #[H (Z ⟨b,off,N⟩) d.length c] w (fun e w'=>e=.returned (.tuple #[])/\Row w' b off 3 pre post d.reverse/\w.grownBy w' (Z b)):=by
 have HR:=G h;clear h;have h0:(d.length:Int)-1=((d.length-1:Nat):Int):=by omega
 go_enter func144,ntmps144;go_wp2_with fail;clear h0;go_loopw [2,3] (fun u v wr=>∃(i j:Nat)(d':Li),2*i<=d.length/\j=d.length-1-i/\u=I J i/\v=I J j/\RvK d d' i/\Row wr b off 3 pre post d'/\w.grownBy wr (Z b)) (fun u _ _=>d.length-(intOf u).toNat)
 case atStart=>exact⟨0,d.length-1,d,by omega,by omega,rfl,rfl,RvK.zero d,HR.out,aO _ _⟩
 obtain⟨i,j,d',hi,hj,rfl,rfl,hk,hr,hg⟩:=hrel;have HJ:=G hj;have hj1:j<=d.length-1-i:=by omega
 have hj2:d.length-1-i<=j:=by omega
 clear hj;have HK:=G hk;have HRr:=G hr;have HL:=G hk.1;clear hk hr;by_cases hij:i<j
 ·have hil:i<d'.length:=by rw[HL.out];omega
  have hjl:j<d'.length:=by rw[HL.out];omega
  have ci:=HRr.out.cell (List.getElem?_eq_getElem hil);have cj:=HRr.out.cell (List.getElem?_eq_getElem hjl);have fi:=HRr.out.frozen (off+i);have fj:=HRr.out.frozen (off+j);have HS:=G (HK.out.step hij HJ.out hi (List.getElem?_eq_getElem hil) (List.getElem?_eq_getElem hjl));have HW:=G (fun(x y:Int)=>show Row ((wr.setCell ⟨b,off+i,N⟩ (I J y)).setCell ⟨b,off+j,N⟩ (I J x)) b off 3 pre post ((d'.set i y).set j x)from(HRr.out.set hil y).set (by rw[List.length_set];exact hjl) x)
  have HW2:=G (fun(x y:Int)=>show Row ((wr.setCell ⟨b,off+j,N⟩ (I J x)).setCell ⟨b,off+i,N⟩ (I J y)) b off 3 pre post ((d'.set i y).set j x)from by
   have e:(d'.set i y).set j x=(d'.set j x).set i y:=List.set_comm _ _ (by omega)
   rw[e]
   exact(HRr.out.set hjl x).set (by rw[List.length_set];exact hil) y)
  generalize d'[i]=x at *;generalize d'[j]=y at *;have hne:¬off+i=off+j:=by omega
  have hne2:¬off+j=off+i:=by omega
  clear hil hjl;go_wp2_with fail;go_region
  all_goals
   go_wp2_with fail;go_roundw
   case rel=>
    first
     |exact⟨i+1,j-1,_,by omega,by omega,by go_num,by go_num,HS.out,(HW.out x y).drew,c_ (bF (bF hg (dU _ _ _)) (dU _ _ _))⟩
     |exact⟨i+1,j-1,_,by omega,by omega,by go_num,by go_num,HS.out,(HW2.out x y).drew,c_ (bF (bF hg (dU _ _ _)) (dU _ _ _))⟩
   simp[intOf];omega
 have HD:=G (HK.out.done (by omega) hi);go_wp2_with fail;go_end0;exact⟨rfl,by rw[<-HD.out];exact HRr.out,hg⟩
theorem XP(A:Oa)(n c base:Nat)(d:Li)(w:Wv)(h:w.ownsRow base 3 1 (H A n c) n (d.map (Value.int .i64)))(hn:d.length=n)(hbig:n<=1099511627776):
  Calls prog 144 #[H A n c] w (fun e w'=>e=.returned (.tuple #[])/\w'.ownsRow base 3 1 (H A n c) n (d.reverse.map (Value.int .i64))/\w.grownBy w' (Value.ownBlock (H A n c))):=by
 by_cases hz:n=0
 ·subst hz
  obtain rfl:d=[]:=List.length_eq_zero_iff.1 hn;exact(XO A c w).mono (fun e w'⟨he,hw⟩=>⟨he,by rw[<-hw];exact h,by rw[<-hw];exact aO _ _⟩)
 obtain⟨g,post,rfl,h1,h2,h3,h4,h5⟩:=tT h (by omega);subst hn;exact(XQ g 0 c [] post d w h2 (by omega) hbig).mono (fun e w'⟨he,hr,hg⟩=>⟨he,BK hr h1 (by simp) h4 h5,hg⟩)
end
end Go.Proofs.YtpfbnikbebccjaaGreatDoor
