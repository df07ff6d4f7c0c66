import Derived.Test.YtkhmjidaeliccaaGreatDoorS10
set_option maxRecDepth 100000
set_option maxHeartbeats 51200000
namespace Go.Proofs.YtkhmjidaeliccaaGreatDoor
open Option renaming none->N,some->Z
open Value renaming int->I,slice->H
open IntKind renaming i64->J
open Go.Proofs.Tryz
section
open Go.RowKit Go.Maps Go.WideMaps
theorem pJ(ms:List Mp)(compat:Bool)(c:Int):(aD ms compat c=N/\fD ms compat c=-1)\/∃m:Nat,m<ms.length/\aD ms compat c=Z m/\fD ms compat c=(m:Int):=by
 unfold fD;cases h:aD ms compat c with
 |none=>exact .inl ⟨rfl,rfl⟩
 |some i=>obtain⟨hi,_⟩:=gS h;exact .inr ⟨i,hi,rfl,rfl⟩
def jR(fnd:Int->Option Nat)(T:List Bool)(l:Li):Bool:=l.all (λe=>match fnd e with|none=>true|some m=>T.getD m false)
theorem NM(A:Oa)(n k:Nat)(ms:List Mp)(w:Wv)(hA:Mps w A ms)(hn:ms.length=n)(hbig:n<=1048576)(hz:∀i,(hi:i<ms.length)->ms[i].toq.length<=1048576):
  Calls prog 102 #[H A n k] w (GQ (bY ms.length (toM ms) (aD ms true) ms.length) w):=by
 subst hn;have FD:=G (λc W(hW:Mps W A ms)=>pG A ms.length k ms c true W hW rfl hbig);have K:=G hA;have HZ:=G hz;have HF:=G (λc=>pJ ms true c);have ao:=SS ms.length hbig;clear hA hz;have Y:=G (λr=>(lQ ms.length (toM ms) (aD ms true) r).1);have HS:=G (λr=>show bY ms.length (toM ms) (aD ms true) (r+1)=(List.range ms.length).foldl (aR (toM ms) (aD ms true)) (bY ms.length (toM ms) (aD ms true) r)from rfl);have X:=U ((bY ms.length (toM ms) (aD ms true) 0).map Value.bool=eE ms.length (Value.bool false)) (by simp[bY,eE]);generalize bY ms.length (toM ms) (aD ms true)=RN at *;go_enter func102,ntmps102;go_wp2_with fail;have F:By w (w.alloc (.cells (eE ms.length (Value.bool false)).toArray 4)):=ba _ _;have E:Box (w.alloc (.cells (eE ms.length (Value.bool false)).toArray 4)) w.heap.size 4 (eE ms.length (Value.bool false)):=Box.new _ _ _ rfl;obtain⟨W0,s⟩:=exQ ((w.alloc (.cells (eE ms.length (Value.bool false)).toArray 4)));rw[s]at F E|-;clear s;rw[<-X.o]at E;have o:=G E;clear E X;go_loopw [4] (λu wr=>∃r:Nat,r<=ms.length/\u=I J r/\Box wr w.heap.size 4 ((RN r).map Value.bool)/\By w wr) (λu _=>ms.length-(intOf u).toNat)
 case atStart=>exact⟨0,Nat.zero_le _,rfl,o.o,F⟩
 obtain⟨r,hr,rfl,t,hb⟩:=hrel;have h:=G t;clear t o F;by_cases hlt:r<ms.length
 ·go_wp2_with fail
  have S:=Y.o r;have L:=G (HS.o r);generalize hR1:RN (r+1)=R1 at *;generalize hR0:RN r=T0 at *;have M:=G hR1;have ah:=G hR0;clear hR1 hR0;go_loopw [5] (λu wr=>∃i:Nat,i<=ms.length/\u=I J i/\Box wr w.heap.size 4 (((List.range i).foldl (aR (toM ms) (aD ms true)) T0).map Value.bool)/\By w wr) (λu _=>ms.length-(intOf u).toNat)
  case atStart=>exact⟨0,Nat.zero_le _,rfl,h.o,hb⟩
  clear h hb;obtain⟨i,hi,rfl,t,hb⟩:=hrel;have h:=G t;clear t;by_cases hlti:i<ms.length
  ·obtain⟨b1,o1,rfl,al,g⟩:=(K.o.below hb).at hlti
   obtain⟨C,cc,c0,c1,c2,am,hC⟩:=g i hlti;have ap:=HZ.o i hlti;have B:=kY hlti;have l:((List.range i).foldl (aR (toM ms) (aD ms true)) T0).length=ms.length:=by rw[NK];exact S
   have P:=U ((List.range (i+1)).foldl (aR (toM ms) (aD ms true)) T0=((List.range i).foldl (aR (toM ms) (aD ms true)) T0).set i (jR (aD ms true) ((List.range i).foldl (aR (toM ms) (aD ms true)) T0) ms[i].toq)) (by
    rw[List.range_succ,List.foldl_append]
    simp only[List.foldl_cons,List.foldl_nil]
    unfold aR jB jR
    rw[B]
    rfl)
   clear B g;generalize (List.range i).foldl (aR (toM ms) (aD ms true)) T0=T at *;generalize hT1:(List.range (i+1)).foldl (aR (toM ms) (aD ms true)) T0=T1 at *;have Q:=G hT1;clear hT1;generalize ms[i].frm=mf at *;generalize ms[i].toq=mt at *;generalize ms[i].tag=mg at *;have HC:=G hC;have HM:=G (K.o.below hb);clear hC K;go_wp2;go_loop [6,7] (λv u=>∃b:Nat,b<=mt.length/\v=.bool (jR (aD ms true) T (mt.take b))/\u=I J b) (λ_ u=>mt.length-(intOf u).toNat)
   case atStart=>exact⟨0,Nat.zero_le _,rfl,rfl⟩
   obtain⟨b,an,rfl,rfl⟩:=hrel;by_cases hltk:b < mt.length
   ·obtain⟨b2,o2,rfl,y⟩:=HC.o.at hltk
    have d0:=y b hltk;have d:jR (aD ms true) T (mt.take (b+1))=(jR (aD ms true) T (mt.take b)&&(match aD ms true mt[b]with|none=>true|some m=>T.getD m false)):=NI hltk;clear y;generalize mt[b]=z at *;generalize jR (aD ms true) T (mt.take b)=a at *;have j:=G (FD.o z wr HM.o);rcases HF.o z with⟨p,q⟩|⟨m,hm,p,q⟩
    ·rw[p,Bool.and_true]at d
     rw[q]at j;have f:=G d;clear d p q;cases a with
     |true=>
      go_wp2_with fail;refine j.o.mono ?_
      rintro e D ⟨rfl,rfl⟩;go_wp2;go_round
      case rel=>exact⟨b+1,O,by rw[f.o],oN_⟩
      exact oI_
     |false=>
      go_wp2_with fail;refine j.o.mono ?_
      rintro e D ⟨rfl,rfl⟩;go_wp2;go_round
      case rel=>exact⟨b+1,O,by rw[f.o],oN_⟩
      exact oI_
    have hg:T.getD m false=T[m]' O:=by simp[List.getD,l,hm]
    have e0:wr.cell? ⟨w.heap.size,m,N⟩=Z (.bool (T[m]' O)):=h.o.cell (by simp[l,hm]);rw[p]at d;simp only[hg]at d;rw[q]at j;generalize T[m]' O=tm at *;have f:=G d;clear d p q hg;cases a with
    |true=>
     cases tm with
     |true=>
      go_wp2_with fail;refine j.o.mono ?_
      rintro e D ⟨rfl,rfl⟩;go_wp2;go_round
      case rel=>exact⟨b+1,O,by rw[f.o];rfl,oN_⟩
      exact oI_
     |false=>
      go_wp2_with fail;refine j.o.mono ?_
      rintro e D ⟨rfl,rfl⟩;go_wp2;go_round
      case rel=>exact⟨b+1,O,by rw[f.o];rfl,oN_⟩
      exact oI_
    |false=>
     go_wp2_with fail;refine j.o.mono ?_
     rintro e D ⟨rfl,rfl⟩;go_wp2;go_round
     case rel=>exact⟨b+1,O,by rw[f.o];rfl,oN_⟩
     exact oI_
   obtain rfl:b=mt.length:=O;have e1:wr.frozen? ⟨w.heap.size,i,N⟩=false:=h.o.free i;have e0:wr.cell? ⟨w.heap.size,i,N⟩=Z (.bool (T[i]' O)):=h.o.cell (by simp[l,hlti])
   have HK:=U (Box (wr.setCell ⟨w.heap.size,i,N⟩ (.bool (jR (aD ms true) T mt))) w.heap.size 4 (T1.map Value.bool)) (by
    have:=h.o.set i (.bool (jR (aD ms true) T mt))
    rw[P.o,List.map_set]
    exact this)
   have V:By w (wr.setCell ⟨w.heap.size,i,N⟩ (.bool (jR (aD ms true) T mt))):=hb.setCell (Nat.le_refl _) _;rw[List.take_length];generalize jR (aD ms true) T mt=x at *;go_wp2;go_roundw
   case rel=>exact⟨i+1,O,oN_,by rw[Q.o];exact HK.o,V⟩
   exact oI_
  obtain rfl:i=ms.length:=O;go_wp2;go_roundw
  case rel=>exact⟨r+1,O,oN_,by rw[M.o,L.o];exact h.o,hb⟩
  exact oI_
 obtain rfl:r=ms.length:=O;have hl:=Y.o ms.length;have R:=G (h.o.sl);generalize RN ms.length=RR at *;go_wp2;go_ret;exact⟨Z ⟨w.heap.size,0,N⟩,ms.length,by rw[hl];rfl,O,R.o,hb⟩
def iL(L:Li):Prop:=∀x∈L,0<=x/\x<=65
theorem iL.getD{L:Li}(h:iL L)(i:Nat):0<=L.getD i 0/\L.getD i 0<=65:=by
 by_cases hi:i<L.length
 ·have:=h _ (List.getElem_mem hi)
  simpa[List.getD,hi]using this
 simp[List.getD,Nat.le_of_not_lt hi]
theorem xI(e:Int):0<=dlM e/\dlM e<=3:=by
 unfold dlM;by_cases h4:4<=Hg.kind e
 ·have:=(lE h4).1;omega
 rw[mB O];simp
theorem zE{L:Li}(h:iL L)(fnd:Int->Option Nat)(e:Int):0<=jE fnd dlM L e/\jE fnd dlM L e<=65:=by
 unfold jE;cases fnd e with
 |none=>have:=xI e;dsimp only;omega
 |some m=>exact h.getD m
theorem RF{L:Li}{toq:Nat->Li}{fnd:Int->Option Nat}(i:Nat):0<=lN toq fnd dlM aM L i/\lN toq fnd dlM aM L i<=65:=by unfold lN aM;omega
theorem iL.step{L:Li}(h:iL L)(toq:Nat->Li)(fnd:Int->Option Nat)(skip:Nat->Bool)(i:Nat):iL (dW toq fnd dlM aM skip L i):=by
 intro x hx;unfold dW at hx;rcases List.mem_or_eq_of_mem_set hx with hx|hx
 ·exact h x hx
 subst hx;split
 ·omega
 exact RF i
theorem iL.fold(toq:Nat->Li)(fnd:Int->Option Nat)(skip:Nat->Bool)(s:List Nat):∀{L:Li},iL L->iL (s.foldl (dW toq fnd dlM aM skip) L):=by
 induction s with
 |nil=>intro L h;exact h
 |cons x s ih=>intro L h;exact ih (h.step toq fnd skip x)
theorem zF(toq:Nat->Li)(fnd:Int->Option Nat)(skip:Nat->Bool)(s:List Nat):∀L:Li,(s.foldl (dW toq fnd dlM aM skip) L).length=L.length:=by
 induction s with
 |nil=>intro T;rfl
 |cons x s ih=>intro T;exact(ih _).trans (by simp[dW])
theorem zI(ms:List Mp)(compat:Bool)(r:Nat):(gW ms compat r).length=ms.length/\iL (gW ms compat r):=by
 induction r with
 |zero=>exact⟨by simp[gW],λx hx=>by rw[List.eq_of_mem_replicate hx];omega⟩
 |succ r ih=>exact⟨by rw[gW,zF,ih.1],ih.2.fold _ _ _ _⟩
def jJ(fnd:Int->Option Nat)(L:Li)(l:Li):Int:=(l.map (jE fnd dlM L)).sum
theorem ZZ{toq:Li}{fnd:Int->Option Nat}{L:Li}{k:Nat}(hk:k<toq.length):jJ fnd L (toq.take (k+1))=jJ fnd L (toq.take k)+jE fnd dlM L toq[k]:=by
 unfold jJ;rw[List.take_succ_eq_append_getElem hk,List.map_append,List.sum_append];simp
theorem ZY{L:Li}(h:iL L)(fnd:Int->Option Nat)(l:Li):0<=jJ fnd L l/\jJ fnd L l<=65*l.length:=by
 unfold jJ;induction l with
 |nil=>simp
 |cons x l ih=>
  have:=zE h fnd x;rw[List.map_cons,List.sum_cons,List.length_cons];omega
theorem RG(A:Oa)(n k:Nat)(ms:List Mp)(compat:Bool)(w:Wv)(hA:Mps w A ms)(hn:ms.length=n)(hbig:n<=1048576)(hz:∀i,(hi:i<ms.length)->ms[i].toq.length<=1048576):
  Calls prog 103 #[H A n k,.bool compat] w (kI (gV ms compat) w):=by
 subst hn;have FD:=G (λc W(hW:Mps W A ms)=>pG A ms.length k ms c compat W hW rfl hbig);have DC:=G (λc W=>BT c W);have HA:=G hA;have HZ:=G hz;have HF:=G (λc=>pJ ms compat c);have bh:=SU ms.length hbig;clear hA hz;have HL:=G (λr=>zI ms compat r);have HS:=G (λr=>show gW ms compat (r+1)=(List.range ms.length).foldl (dW (toM ms) (aD ms compat) dlM aM (aX ms compat)) (gW ms compat r)from rfl);have H0:=U ((gW ms compat 0).map (Value.int .i64)=eE ms.length (Value.int .i64 0)) (by simp[gW,eE]);have HE:=U (gV ms compat=gW ms compat ms.length) rfl;generalize gW ms compat=RN at *;generalize gV ms compat=RE at *;go_enter func103,ntmps103;go_wp2_with fail;have Y:By w (w.alloc (.cells (eE ms.length (Value.int .i64 0)).toArray 3)):=ba _ _;have X:Box (w.alloc (.cells (eE ms.length (Value.int .i64 0)).toArray 3)) w.heap.size 3 (eE ms.length (Value.int .i64 0)):=Box.new _ _ _ rfl;obtain⟨W0,F⟩:=exQ ((w.alloc (.cells (eE ms.length (Value.int .i64 0)).toArray 3)));rw[F]at Y X|-;clear F;rw[<-H0.o]at X;have B:=G X;clear X H0;go_loopw [6] (λu wr=>∃r:Nat,r<=ms.length/\u=I J r/\Box wr w.heap.size 3 ((RN r).map (Value.int .i64))/\By w wr) (λu _=>ms.length-(intOf u).toNat)
 case atStart=>exact⟨0,Nat.zero_le _,rfl,B.o,Y⟩
 obtain⟨r,hr,rfl,g,hb⟩:=hrel;have d:=G g;clear g B Y;by_cases hlt:r<ms.length
 ·go_wp2_with fail
  have al:=(HL.o r).1;have aa:=G (HL.o r).2;have ag:=G (HS.o r);generalize hR1:RN (r+1)=R1 at *;generalize hR0:RN r=T0 at *;have ah:=G hR1;have a2:=G hR0;clear hR1 hR0;go_loopw [7] (λu wr=>∃i:Nat,i<=ms.length/\u=I J i/\Box wr w.heap.size 3 (((List.range i).foldl (dW (toM ms) (aD ms compat) dlM aM (aX ms compat)) T0).map (Value.int .i64))/\By w wr) (λu _=>ms.length-(intOf u).toNat)
  case atStart=>exact⟨0,Nat.zero_le _,rfl,d.o,hb⟩
  clear d hb;obtain⟨i,hi,rfl,g,hb⟩:=hrel;have d:=G g;clear g;by_cases hlti:i<ms.length
  ·obtain⟨b1,o1,rfl,M,a⟩:=(HA.o.below hb).at hlti
   have bi:=HZ.o i hlti;have R:=kY hlti;have Q:aX ms compat i=(!compat&&decide (¬ms[i].tag.size=0)):=by simp[aX,List.getD,hlti]
   have p:((List.range i).foldl (dW (toM ms) (aD ms compat) dlM aM (aX ms compat)) T0).length=ms.length:=by rw[zF];exact al
   have y:=G (iL.fold (toM ms) (aD ms compat) (aX ms compat) (List.range i) aa.o)
   have t:=U ((List.range (i+1)).foldl (dW (toM ms) (aD ms compat) dlM aM (aX ms compat)) T0=((List.range i).foldl (dW (toM ms) (aD ms compat) dlM aM (aX ms compat)) T0).set i (if(!compat&&decide (¬ms[i].tag.size=0))=true then 1 else min (max (jJ (aD ms compat) ((List.range i).foldl (dW (toM ms) (aD ms compat) dlM aM (aX ms compat)) T0) ms[i].toq) 1) 65)) (by
    rw[List.range_succ,List.foldl_append]
    simp only[List.foldl_cons,List.foldl_nil]
    conv=>lhs;unfold dW lN
    rw[R,Q]
    rfl)
   clear R Q;have ab:=G a;clear a;generalize (List.range i).foldl (dW (toM ms) (aD ms compat) dlM aM (aX ms compat)) T0=T at *;generalize hT1:(List.range (i+1)).foldl (dW (toM ms) (aD ms compat) dlM aM (aX ms compat)) T0=T1 at *;have o:=G hT1;clear hT1;have ai:=G (λl=>ZY y.o (aD ms compat) l);go_wp2;go_loopw [8,9] (λv u wr=>∃f:Nat,f<=ms[i].toq.length/\v=I J (jJ (aD ms compat) T (ms[i].toq.take f))/\u=I J f/\Box wr w.heap.size 3 (T.map (Value.int .i64))/\By w wr) (λ_ u _=>ms[i].toq.length-(intOf u).toNat)
   case atStart=>exact⟨0,Nat.zero_le _,rfl,rfl,d.o,hb⟩
   clear d hb ab M;obtain⟨f,bg,rfl,rfl,g,hb⟩:=hrel;have d:=G g;clear g;have hM:=HA.o.below hb;obtain⟨a6,bj,q,M,a⟩:=hM.at hlti;injection q with q;injection q with q e2;subst q;subst e2;obtain⟨C,cc,c0,c1,c2,bf,hC⟩:=a i hlti;have HC:=G hC;have HM:=G hM;clear hC hM a;generalize ms[i].frm=mf at *;generalize ms[i].toq=mt at *;generalize ms[i].tag=mg at *;by_cases hltk:f < mt.length
   ·obtain⟨b2,o2,rfl,P⟩:=HC.o.at hltk
    have d0:=P f hltk;have b:=ZZ (fnd:=aD ms compat) (L:=T) hltk;have s1:=ai.o (mt.take f);rw[List.length_take]at s1;clear P;generalize mt[f]=z at *;have S:=zE y.o (aD ms compat) z;have V:=G (FD.o z wr HM.o);unfold jE at b S;generalize hs:jJ (aD ms compat) T (mt.take f)=s at *;have a4:=G hs;clear hs;rcases HF.o z with⟨D,E⟩|⟨m,hm,D,E⟩
    ·rw[D]at b S
     rw[E]at V;dsimp only at b S;have j:=G b;have DZ:=G (DC.o z wr);have ad:=U (((Hg.decomp z).length:Int)=dlM z) rfl;clear b D E;generalize dlM z=dz at *;generalize Hg.decomp z=dzl at *;go_wp2_with fail;refine V.o.mono ?_
     rintro e W' ⟨rfl,rfl⟩;go_wp2_with fail;refine DZ.o.mono ?_
     rintro e W' ⟨A3,c3,rfl,be,_,K⟩;have hl:=ad.o;clear c0 c1 c2 d0;go_wp2;go_roundw
     case rel=>exact⟨f+1,O,by rw[j.o],oN_,d.o.below K (by have:=d.o.lt;omega),tb hb K⟩
     exact oI_
    have hg:T.getD m 0=T[m]' O:=by simp[List.getD,p,hm]
    have e0:wr.cell? ⟨w.heap.size,m,N⟩=Z (I J (T[m]' O)):=d.o.cell (by simp[p,hm]);rw[D]at b S;simp only[hg]at b S;rw[E]at V;generalize T[m]' O=tm at *;have j:=G b;clear b D E hg;go_wp2_with fail;refine V.o.mono ?_
    rintro e W' ⟨rfl,rfl⟩;go_wp2;go_roundw
    case rel=>exact⟨f+1,O,by rw[j.o],oN_,d.o,hb⟩
    exact oI_
   obtain rfl:f=mt.length:=O;have q:wr.frozen? ⟨w.heap.size,i,N⟩=false:=d.o.free i;have e0:wr.cell? ⟨w.heap.size,i,N⟩=Z (I J (T[i]' O)):=d.o.cell (by simp[p,hlti]);rw[List.take_length]
   have HK:=G (λ(v:Int) (hv:v=min (max (jJ (aD ms compat) T mt) 1) 65) (hc:compat=true\/mg.size=0)=>show Box (wr.setCell ⟨w.heap.size,i,N⟩ (I J v)) w.heap.size 3 (T1.map (Value.int .i64))from by
    have:=d.o.set i (I J v)
    rw[t.o,if_neg (by rcases hc with hc|hc<;>simp[hc]),<-hv,List.map_set]
    exact this)
   have ae:=G (λ(v:Int) (hc:compat=false) (hg:¬mg.size=0)=>show Box ((wr.setCell ⟨w.heap.size,i,N⟩ (I J v)).setCell ⟨w.heap.size,i,N⟩ (I J 1)) w.heap.size 3 (T1.map (Value.int .i64))from by
    have:=(d.o.set i (I J v)).set i (I J 1)
    rw[List.set_set]at this
    rw[t.o,if_pos (by simp[hc];intro h;exact hg (by rw[h];rfl)),List.map_set]
    exact this)
   generalize jJ (aD ms compat) T mt=x at *;have MM:=U ((if 65<if x<1 then 1 else x then(65:Int)else if x<1 then 1 else x)=min (max x 1) 65) O;by_cases hg:mg.size=0
   ·have g0:mg.toList=[]:=iH hg
    go_wp2;go_roundw
    case rel=>exact⟨i+1,O,oN_,by rw[o.o];exact HK.o _ MM.o (.inr hg),hb.setCell (Nat.le_refl _) _⟩
    exact oI_
   have g0:¬mg.toList=[]:=iG hg;have g1:mg.toList.isEmpty=false:=by simpa using g0
   cases compat with
   |true=>
    go_wp2;go_roundw
    case rel=>exact⟨i+1,O,oN_,by rw[o.o];exact HK.o _ MM.o (.inl rfl),hb.setCell (Nat.le_refl _) _⟩
    exact oI_
   |false=>
    go_wp2;go_roundw
    case rel=>exact⟨i+1,O,oN_,by rw[o.o];exact ae.o _ rfl hg,(hb.setCell (Nat.le_refl _) _).setCell (Nat.le_refl _) _⟩
    exact oI_
  obtain rfl:i=ms.length:=O;go_wp2;go_roundw
  case rel=>exact⟨r+1,O,oN_,by rw[ah.o,ag.o];exact d.o,hb⟩
  exact oI_
 obtain rfl:r=ms.length:=O;have hl:=(HL.o ms.length).1;have aj:=G (d.o.sl);have hE:=HE.o;generalize RN ms.length=RR at *;subst hE;go_wp2;go_ret;exact⟨Z ⟨w.heap.size,0,N⟩,ms.length,by rw[hl];rfl,O,aj.o,hb⟩
theorem yJ{ms:List Mp}{c:Int}{j:Nat}(hj:j<ms.length)(h:ms[j].frm=c):0<=fD ms true c/\fD ms true c<=j:=by
 unfold fD;cases hf:aD ms true c with
 | none=>exact absurd hf (by
   unfold aD
   rw[List.findIdx?_eq_none_iff]
   intro g
   have:=g _ (List.getElem_mem hj)
   simp[h]at this)
 |some i=>
  refine⟨oD_,?_⟩;unfold aD at hf;rw[List.findIdx?_eq_some_iff_getElem]at hf;obtain⟨hi,_,a⟩:=hf;dsimp only;rcases Nat.lt_or_ge j i with g|g
  ·have:=a j g;simp[h]at this
  omega
theorem ZT{ms:List Mp}{i:Nat}(hi:i<ms.length)(h:fD ms true ms[i].frm<i):stB ms=false:=by
 rcases pJ ms true ms[i].frm with⟨a,b⟩|⟨m,hm,a,b⟩
 ·have:=(yJ hi rfl).1;omega
 obtain⟨_,g,_⟩:=gS a;exact DV hm hi O g.symm
theorem ZU{ms:List Mp}(h:cH ms=0)(hno:∀t,(ht:t<ms.length)->¬fD ms true ms[t].frm<t):stB ms=true:=
 DW h (λk hk g=>by
  have a:=hno (k+1) hk
  have b:=(yJ (j:=k) (c:=ms[k+1].frm) O g.symm).2
  omega)
theorem BM(A0:Oa)(n0 k0:Nat)(A1:Oa)(n1 k1:Nat)(A2:Oa)(n2 k2:Nat)(x:Nrm)(w:Wv)(hN:cB w A0 n0 A1 n1 A2 n2 x)(hz:cZ x):
  Calls prog 41 #[.agg #[H A0 n0 k0,H A1 n1 k1,H A2 n2 k2]] w (aU (bW x) w):=by
 obtain⟨ss,ms,rs⟩:=x;obtain⟨hS,hM,hR,rfl,rfl,rfl⟩:=hN;dsimp only at *;have z0:ss.length<=1048576:=hz.z0;have z1:ms.length<=1048576:=hz.z1.n;have ze:=G hz.z1.e;have z2:rs.length<=12:=hz.z2;have CC:=G (λW(hb:By w W)=>BP A0 ss.length k0 ss W (hS.below hb) rfl O);have MC:=G (λW(hb:By w W)=>WF A1 ms.length k1 ms W (hM.below hb) rfl hz.z1);have VC:=G (λW(hb:By w W)=>WI A2 rs.length k2 rs W (hR.below hb) rfl O);have KC:=G (λc W=>pX c W);have ao:=G (λc W(hb:By w W)=>pW A0 ss.length k0 ss c W (hS.below hb) rfl O);have FC:=G (λc W(hb:By w W)=>pG A1 ms.length k1 ms c true W (hM.below hb) rfl z1);have EC:=G (λW(hb:By w W)=>NM A1 ms.length k1 ms W (hM.below hb) rfl z1 (λi hi=>(ze.o i hi).1));have LC:=G (λb W(hb:By w W)=>RG A1 ms.length k1 ms b W (hM.below hb) rfl z1 (λi hi=>(ze.o i hi).1));have N0:=G (λh=>tS (x:=⟨ss,ms,rs⟩) h);have N1:=G (λq h2=>tU (x:=⟨ss,ms,rs⟩) q h2);have N2:=G (λq h2 h3=>tW (x:=⟨ss,ms,rs⟩) q h2 h3);have N3:=G (λ(c:Ck3 ⟨ss,ms,rs⟩) h=>c.twice h);have N4:=G (λ(c:Ck4 ⟨ss,ms,rs⟩) h=>c.kind h);have N5:=G (λ(c:Ck5 ⟨ss,ms,rs⟩) h=>c.data h);have N6:=G (λ(c:Ck6 ⟨ss,ms,rs⟩)=>c.rest);dsimp only at N0 N1 N2 N3 N4 N5 N6;generalize bW ⟨ss,ms,rs⟩=r at *;have HM:=G hM;clear hM hS hR hz ze;have B0:By w (w.alloc (.cells #[H A0 ss.length k0,H A1 ms.length k1,H A2 rs.length k2] 28)):=ba _ _;have X0:Box (w.alloc (.cells #[H A0 ss.length k0,H A1 ms.length k1,H A2 rs.length k2] 28)) w.heap.size 28 [H A0 ss.length k0,H A1 ms.length k1,H A2 rs.length k2]:=Box.new _ _ _ rfl;have b7:∃W0,(w.alloc (.cells #[H A0 ss.length k0,H A1 ms.length k1,H A2 rs.length k2] 28))=W0:=⟨_,rfl⟩;go_enter func41,ntmps41;go_wp2_with fail;obtain⟨W0,a1⟩:=b7;rw[a1]at B0 X0|-;clear a1;have s0:w.heap.size<W0.heap.size:=X0.lt
 have Q:=G (λW(hb:By W0 W)=>show W.cell? ⟨w.heap.size,0,N⟩=Z (H A0 ss.length k0)/\W.cell? ⟨w.heap.size,1,N⟩=Z (H A1 ms.length k1)/\W.cell? ⟨w.heap.size,2,N⟩=Z (H A2 rs.length k2)from
  have X:=X0.below hb s0
  ⟨X.cell rfl,X.cell rfl,X.cell rfl⟩)
 have p:=G (λW(hb:By W0 W)=>B0.trans (hb.mono B0.size));clear X0;refine(CC.o _ B0).mono ?_
 rintro e W1 ⟨rfl,L⟩;obtain⟨q0,q1,q2⟩:=Q.o W1 L;generalize hc:chk ss=c at *;have HC:=G hc;clear hc CC;by_cases h0:¬c=0
 ·go_wp2
  go_ret;exact⟨aH (N0.o h0).symm,p.o _ L⟩
 replace h0:=Decidable.not_not.1 h0;subst h0;clear N0;go_wp2_with fail;refine(MC.o _ (p.o _ L)).mono ?_
 rintro e W2 ⟨rfl,v⟩;replace v:=L.trans (v.mono L.size);clear q0 q1 q2 L MC;obtain⟨q0,q1,q2⟩:=Q.o W2 v;generalize hc:cH ms=c at *;have aw:=G hc;clear hc;by_cases h0:¬c=0
 ·go_wp2
  go_ret;exact⟨aH (N1.o oQ_ h0).symm,p.o _ v⟩
 replace h0:=Decidable.not_not.1 h0;subst h0;clear N1;go_wp2_with fail;refine(VC.o _ (p.o _ v)).mono ?_
 rintro e W3 ⟨rfl,R⟩;replace R:=v.trans (R.mono v.size);clear q0 q1 q2 v VC;obtain⟨q0,q1,q2⟩:=Q.o W3 R;generalize hc:iE rs=c at *;have ax:=G hc;clear hc;cases c with
 |false=>
  go_wp2;go_ret;exact⟨aH (N2.o oQ_ oQ_ oQ_).symm,p.o _ R⟩
 |true=>
 have C3:=U (Ck3 ⟨ss,ms,rs⟩) (⟨HC.o,aw.o,ax.o⟩);clear N2 HC ax;go_wp2_with fail;clear q0 q1 q2;go_loopw [6] (λu wr=>∃i:Nat,i<=ms.length/\u=I J i/\(∀t,(ht:t<ms.length)->t<i->¬fD ms true ms[t].frm<t)/\By W0 wr) (λu _=>ms.length-(intOf u).toNat)
 case atStart=>exact⟨0,Nat.zero_le _,rfl,λt _ h=>absurd h (Nat.not_lt_zero _),R⟩
 obtain⟨i,hi,rfl,q,hb⟩:=hrel;have H1:=G q;clear q;by_cases hlt:i<ms.length
 ·obtain⟨b,o,rfl,_,j⟩:=(HM.o.below (p.o _ hb)).at hlt
  obtain⟨E,d,c1,c2,c3,_,_⟩:=j i hlt;clear j;have HS:=G (λh=>ZT hlt h)
  have F:=G (λ(h:¬fD ms true ms[i].frm<i)=>show ∀t,(ht:t<ms.length)->t<i+1->¬fD ms true ms[t].frm<t from λt ht g=>by
   by_cases e:t=i
   ·subst e;exact h
   ·exact H1.o t ht O)
  have FZ:=G (FC.o ms[i].frm wr (p.o _ hb));generalize fD ms true ms[i].frm=fv at *;generalize ms[i].frm=f at *;generalize ms[i].toq.length=tl at *;generalize ms[i].tag=tg at *;clear HM;by_cases heq:fv<i
  ·have s:=G (N3.o C3.o (HS.o heq))
   go_wp2_with fail;refine FZ.o.mono ?_
   rintro e W4 ⟨rfl,rfl⟩;go_wp2;go_ret;exact⟨aH s.o.symm,p.o _ hb⟩
  have s:=G (F.o heq);go_wp2_with fail;refine FZ.o.mono ?_
  rintro e W4 ⟨rfl,rfl⟩;go_wp2;go_roundw
  case rel=>exact⟨i+1,O,oN_,λt ht h=>by have:=s.o t ht h;omega,hb⟩
  exact oI_
 have a5:=U (stB ms=true) (ZU aw.o (λt ht=>H1.o t ht O));have C4:=U (Ck4 ⟨ss,ms,rs⟩) (⟨C3.o,a5.o⟩);clear N3 C3 H1 a5 FC;go_wp2;go_loopw [7] (λu wr=>∃i:Nat,i<=ms.length/\u=I J i/\(∀t,(ht:t<ms.length)->t<i->cV ms[t]=false)/\By W0 wr) (λu _=>ms.length-(intOf u).toNat)
 case atStart=>exact⟨0,Nat.zero_le _,rfl,λt _ h=>absurd h (Nat.not_lt_zero _),hb⟩
 clear hb;obtain⟨i,hi,rfl,n,hb⟩:=hrel;have l:=G n;clear n;by_cases hlt:i<ms.length
 ·obtain⟨y,A,rfl,cd,j⟩:=(HM.o.below (p.o _ hb)).at hlt
  obtain⟨C,cc,c0,c1,c2,cg,hC⟩:=j i hlt;have V:=G (λh=>N4.o C4.o (iP hlt h));have F:=G (λh=>dI (P:=λm=>cV m=false) hlt l.o h);clear j hC;generalize ms[i]=mi at *;have K1:=G (λ(h:¬mi.tag.size=0)=>show cV mi=false from by simp[cV,h]);have K2:=G (λ(h:mi.toq.length=1)=>show cV mi=false from by simp[cV,h]);have K3:=G (λ(h:mi.toq.length=2)=>show cV mi=false from by simp[cV,h]);have K4:=G (λ(h:mi.tag.size=0) (q:¬mi.toq.length=1) (h2:¬mi.toq.length=2)=>show cV mi=true from by simp[cV,h,q,h2]);generalize cV mi=kb at *;obtain⟨mf,mt,mg⟩:=mi;dsimp only at *;clear HM;by_cases hg:mg.size=0
  ·have g0:mg.toList=[]:=iH hg
   by_cases q:mt.length=1
   ·have K:=G (F.o (K2.o q))
    have d1:((mt.length:Int)!=1)=false:=oU_;clear q;go_wp2;go_roundw
    case rel=>exact⟨i+1,O,oN_,K.o,hb⟩
    exact oI_
   have d1:((mt.length:Int)!=1)=true:=oU_;by_cases h2:mt.length=2
   ·have K:=G (F.o (K3.o h2))
    have d2:((mt.length:Int)!=2)=false:=oU_;clear q h2;go_wp2;go_roundw
    case rel=>exact⟨i+1,O,oN_,K.o,hb⟩
    exact oI_
   have s:=G (V.o (K4.o hg q h2));have d2:((mt.length:Int)!=2)=true:=oU_;go_wp2;go_ret;exact⟨aH s.o.symm,p.o _ hb⟩
  have g0:¬mg.toList=[]:=iG hg;have g1:mg.toList.isEmpty=false:=by simpa using g0
  have K:=G (F.o (K1.o hg));go_wp2;go_roundw
  case rel=>exact⟨i+1,O,oN_,K.o,hb⟩
  exact oI_
 have C5:=U (Ck5 ⟨ss,ms,rs⟩) (⟨C4.o,show ms.any cV=false from fV (λt ht=>l.o t ht O)⟩);clear C4 N4 l;go_wp2;go_loopw [8] (λu wr=>∃i:Nat,i<=ms.length/\u=I J i/\(∀t,(ht:t<ms.length)->t<i->dD ss ms[t]=false)/\By W0 wr) (λu _=>ms.length-(intOf u).toNat)
 case atStart=>exact⟨0,Nat.zero_le _,rfl,λt _ h=>absurd h (Nat.not_lt_zero _),hb⟩
 clear hb;obtain⟨i,hi,rfl,n,hb⟩:=hrel;have l:=G n;clear n;by_cases hlt:i<ms.length
 ·obtain⟨y,A,rfl,cd,j⟩:=(HM.o.below (p.o _ hb)).at hlt
  obtain⟨C,cc,c0,c1,c2,cg,hC⟩:=j i hlt;have V:=G (λh=>N5.o C5.o (iP hlt h));have F:=G (λh=>dI (P:=λm=>dD ss m=false) hlt l.o h);clear j hC;generalize ms[i]=mi at *;have K1:=G (λ(h:¬Hg.kind mi.frm=0)=>show dD ss mi=true from by simp[dD,h]);have K2:=G (λ(h:Hg.kind mi.frm=0) (h2:mi.tag.size=0)=>show dD ss mi=false from by simp[dD,h,h2]);have K3:=G (λ(h:Hg.kind mi.frm=0) (h3:clz ss mi.frm=0)=>show dD ss mi=false from by simp[dD,h,h3]);have K4:=G (λ(h2:¬mi.tag.size=0) (h3:¬clz ss mi.frm=0)=>show dD ss mi=true from by unfold dD;simp only[h2,h3,not_false_eq_true,decide_true,Bool.and_self,Bool.or_true]);generalize dD ss mi=kb at *;obtain⟨mf,mt,mg⟩:=mi;dsimp only at *;clear HM;have cy:wr.heap.size=wr.heap.size:=rfl;obtain⟨q0,_,_⟩:=Q.o wr hb;have Y:=G (λW'(hb':By wr W')=>show W'.cell? ⟨w.heap.size,0,N⟩=Z (H A0 ss.length k0)/\W'.cell? ⟨y,A+i*3,N⟩=Z (I J mf)/\W'.cell? ⟨y,A+i*3+2,N⟩=Z (.string mg)/\By wr W' from⟨(hb'.cell (World.block_lt_of_cell? _ _ q0)).trans q0,(hb'.cell (World.block_lt_of_cell? _ _ c0)).trans c0,(hb'.cell (World.block_lt_of_cell? _ _ c2)).trans c2,hb'⟩);have KF:=G (λW'(hb':By wr W')=>(KC.o mf W').mono (R':=λe W'=>e=.returned (I J (Hg.kind mf))/\(W'.cell? ⟨w.heap.size,0,N⟩=Z (H A0 ss.length k0)/\W'.cell? ⟨y,A+i*3,N⟩=Z (I J mf)/\W'.cell? ⟨y,A+i*3+2,N⟩=Z (.string mg)/\By wr W')) (λe W'' hh=>⟨hh.1,hh.2 ▸ Y.o W' hb'⟩));have CF:=G (λW'(hb':By wr W')=>(ao.o mf W' (p.o _ (hb.trans (hb'.mono hb.size)))).mono (R':=λe W'=>e=.returned (I J (clz ss mf))/\(W'.cell? ⟨w.heap.size,0,N⟩=Z (H A0 ss.length k0)/\W'.cell? ⟨y,A+i*3,N⟩=Z (I J mf)/\W'.cell? ⟨y,A+i*3+2,N⟩=Z (.string mg)/\By wr W')) (λe W'' hh=>⟨hh.1,Y.o W'' (hb'.trans (hh.2.mono hb'.size))⟩));clear q0 c1;generalize hka:Hg.kind mf=ka at *;generalize hcl:clz ss mf=cl at *;clear hka hcl;by_cases hk0:ka=0
  ·subst hk0
   by_cases hg:mg.size=0
   ·have g0:mg.toList=[]:=iH hg
    have K:=G (F.o (K2.o rfl hg));go_wp2_with fail;refine wp_region_held_drew (S:=λW'=>W'.cell? ⟨w.heap.size,0,N⟩=Z (H A0 ss.length k0)/\W'.cell? ⟨y,A+i*3,N⟩=Z (I J mf)/\W'.cell? ⟨y,A+i*3+2,N⟩=Z (.string mg)/\By wr W') oK_ (Y.o _ ((Below.refl _ _).drew)) (λa=>?_);refine tK 0 83 ?_;refine tK 1 84 ?_;refine tK 2 85 ?_;refine tK 3 86 ?_;refine tK 4 87 ?_;refine qK 5 88 (KF.o _ a.2.2.2) ?_;clear a;intro W5 a;refine tK 6 89 ?_;refine tK 7 90 ?_;refine tK 8 91 ?_;refine tK 9 92 ?_;refine tK 10 93 ?_;refine tK 11 94 ?_;refine tK 12 95 ?_;refine tK 13 96 ?_;refine tK 14 97 ?_;refine sK 15 98 ?_;refine sK 16 99 ?_;refine sK 17 100 ?_;refine sK 18 101 ?_;refine sK 19 102 ?_;refine sK 20 103 ?_;refine sK 21 104 ?_;refine sK 22 105 ?_;refine sK 23 106 ?_;refine tK 24 107 ?_;refine tK 25 108 ?_;refine wpAnyH_done oK_ ?_ _;have z:=hb.trans (a.2.2.2.mono hb.size);clear a Y KF CF;go_wp2;go_roundw
    case rel=>exact⟨i+1,O,oN_,K.o,z⟩
    exact oI_
   have g0:¬mg.toList=[]:=iG hg;have g1:mg.toList.isEmpty=false:=by simpa using g0
   by_cases hc0:cl=0
   ·have K:=G (F.o (K3.o rfl hc0))
    subst hc0;go_wp2_with fail;refine wp_region_held_drew (S:=λW'=>W'.cell? ⟨w.heap.size,0,N⟩=Z (H A0 ss.length k0)/\W'.cell? ⟨y,A+i*3,N⟩=Z (I J mf)/\W'.cell? ⟨y,A+i*3+2,N⟩=Z (.string mg)/\By wr W') oK_ (Y.o _ ((Below.refl _ _).drew)) (λa=>?_);refine tK 0 83 ?_;refine tK 1 84 ?_;refine tK 2 85 ?_;refine tK 3 86 ?_;refine tK 4 87 ?_;refine qK 5 88 (KF.o _ a.2.2.2) ?_;clear a;intro W5 a;refine tK 6 89 ?_;refine tK 7 90 ?_;refine tK 8 91 ?_;refine tK 9 92 ?_;refine tK 10 93 ?_;refine tK 11 94 ?_;refine tK 12 95 ?_;refine tK 13 96 ?_;refine tK 14 97 ?_;refine tK 15 98 ?_;refine tK 16 99 ?_;refine tK 17 100 ?_;refine tK 18 101 ?_;refine tK 19 102 ?_;refine tK 20 103 ?_;refine tK 21 104 ?_;refine qK 22 105 (CF.o _ a.2.2.2) ?_;clear a;intro W6 a;refine tK 23 106 ?_;refine tK 24 107 ?_;refine tK 25 108 ?_;refine wpAnyH_done oK_ ?_ _;have z:=hb.trans (a.2.2.2.mono hb.size);clear a Y KF CF;go_wp2;go_roundw
    case rel=>exact⟨i+1,O,oN_,K.o,z⟩
    exact oI_
   have s:=G (V.o (K4.o hg hc0));have de:(cl !=0)=true:=by simpa using hc0
   go_wp2_with fail;refine wp_region_held_drew (S:=λW'=>W'.cell? ⟨w.heap.size,0,N⟩=Z (H A0 ss.length k0)/\W'.cell? ⟨y,A+i*3,N⟩=Z (I J mf)/\W'.cell? ⟨y,A+i*3+2,N⟩=Z (.string mg)/\By wr W') oK_ (Y.o _ ((Below.refl _ _).drew)) (λa=>?_);refine tK 0 83 ?_;refine tK 1 84 ?_;refine tK 2 85 ?_;refine tK 3 86 ?_;refine tK 4 87 ?_;refine qK 5 88 (KF.o _ a.2.2.2) ?_;clear a;intro W5 a;refine tK 6 89 ?_;refine tK 7 90 ?_;refine tK 8 91 ?_;refine tK 9 92 ?_;refine tK 10 93 ?_;refine tK 11 94 ?_;refine tK 12 95 ?_;refine tK 13 96 ?_;refine tK 14 97 ?_;refine tK 15 98 ?_;refine tK 16 99 ?_;refine tK 17 100 ?_;refine tK 18 101 ?_;refine tK 19 102 ?_;refine tK 20 103 ?_;refine tK 21 104 ?_;refine qK 22 105 (CF.o _ a.2.2.2) ?_;clear a;intro W6 a;refine tK 23 106 ?_;refine tK 24 107 ?_;refine tK 25 108 ?_;refine wpAnyH_done oK_ ?_ _;have z:=hb.trans (a.2.2.2.mono hb.size);clear a Y KF CF;go_wp2;go_ret;exact⟨aH s.o.symm,p.o _ z⟩
  have s:=G (V.o (K1.o hk0));have dg:(ka !=0)=true:=by simpa using hk0
  go_wp2_with fail;refine wp_region_held_drew (S:=λW'=>W'.cell? ⟨w.heap.size,0,N⟩=Z (H A0 ss.length k0)/\W'.cell? ⟨y,A+i*3,N⟩=Z (I J mf)/\W'.cell? ⟨y,A+i*3+2,N⟩=Z (.string mg)/\By wr W') oK_ (Y.o _ ((Below.refl _ _).drew)) (λa=>?_);refine tK 0 83 ?_;refine tK 1 84 ?_;refine tK 2 85 ?_;refine tK 3 86 ?_;refine tK 4 87 ?_;refine qK 5 88 (KF.o _ a.2.2.2) ?_;clear a;intro W5 a;refine tK 6 89 ?_;refine tK 7 90 ?_;refine sK 8 91 ?_;refine sK 9 92 ?_;refine sK 10 93 ?_;refine sK 11 94 ?_;refine sK 12 95 ?_;refine sK 13 96 ?_;refine sK 14 97 ?_;refine sK 15 98 ?_;refine sK 16 99 ?_;refine sK 17 100 ?_;refine sK 18 101 ?_;refine sK 19 102 ?_;refine sK 20 103 ?_;refine sK 21 104 ?_;refine sK 22 105 ?_;refine sK 23 106 ?_;refine sK 24 107 ?_;refine tK 25 108 ?_;refine wpAnyH_done oK_ ?_ _;have z:=hb.trans (a.2.2.2.mono hb.size);clear a Y KF CF;go_wp2;go_ret;exact⟨aH s.o.symm,p.o _ z⟩
 have C6:=U (Ck6 ⟨ss,ms,rs⟩) (⟨C5.o,show ms.any (dD ss)=false from fV (λt ht=>l.o t ht O)⟩);have ag:=G (N6.o C6.o);clear C5 N5 l C6 N6;have E9:=G (λW(hb:By W0 W)=>EC.o W (p.o _ hb));have L9:=G (λb W(hb:By W0 W)=>LC.o b W (p.o _ hb));clear EC LC KC ao HM;have bp:=G (lQ ms.length (toM ms) (aD ms true) ms.length).1;have af:=U (dN ms=(bY ms.length (toM ms) (aD ms true) ms.length).all id) rfl;have ah:=G (λb=>(zI ms b ms.length).1);have av:=U (fE ms=(List.range ms.length).any (λi=>decide (64<(gV ms false).getD i 0)||decide (64<(gV ms true).getD i 0))) rfl;generalize bY ms.length (toM ms) (aD ms true) ms.length=T at *;have a3:(gV ms false).length=ms.length:=ah.o false;have a4:(gV ms true).length=ms.length:=ah.o true;generalize hln0:gV ms false=l0 at *;generalize hln1:gV ms true=l1 at *;have bl:=G a3;have bm:=G a4;have bn:=G hln0;have bo:=G hln1;clear a3 a4 hln0 hln1 ah;go_wp2_with fail;refine(E9.o _ hb).mono ?_
 rintro e W4 ⟨A4,c4,rfl,df,a0,M⟩;replace M:=hb.trans (M.mono hb.size);have a6:=bp.o;have bj:=G a0;clear a0 E9;go_wp2;go_loop [10] (λu=>∃i:Nat,i<=ms.length/\u=I J i/\(∀t,(ht:t<T.length)->t<i->T[t]=true)) (λu=>ms.length-(intOf u).toNat)
 case atStart=>exact⟨0,Nat.zero_le _,rfl,λt _ h=>absurd h (Nat.not_lt_zero _)⟩
 obtain⟨i,hi,rfl,n⟩:=hrel;have l:=G n;clear n;by_cases hlt:i<ms.length
 ·obtain⟨b4,o4,rfl,j⟩:=bj.o.at (k:=i) (by simp[a6,hlt])
  have c0:=j i (.bool (T[i]' O)) (by simp[a6,hlt])
  have V:=G (λ(h:T[i]' O=false)=>show r=12 from by
   rw[ag.o,if_pos]
   rw[af.o]
   rw[<-Bool.not_eq_true,List.all_eq_true]
   intro g
   have:=g _ (List.getElem_mem (show i<T.length by omega))
   rw[id,h]at this
   cases this)
  have ch:i<T.length:=O;have F:=G (λ(h:T[i]' O=true)=>dI (P:=λb=>b=true) ch l.o h);clear j;generalize T[i]' O=tb at *;cases tb with
  |true=>
   have K:=G (F.o rfl);go_wp2;go_round
   case rel=>exact⟨i+1,O,oN_,K.o⟩
   exact oI_
  |false=>
   have s:=G (V.o rfl);go_wp2;go_ret;exact⟨aH s.o.symm,p.o _ M⟩
 ·have ar:=U (dN ms=true) (by
   rw[af.o,List.all_eq_true]
   intro b hb
   obtain⟨t,ht,rfl⟩:=List.getElem_of_mem hb
   exact l.o t ht O)
  have au:=U (r=if fE ms=true then 13 else 0) (by rw[ag.o,if_neg (by rw[ar.o];simp)])
  clear ag ar af l
  go_wp2_with fail
  refine(L9.o false _ M).mono ?_
  rintro e W5 ⟨A5,c5,rfl,ce,aj,a2⟩
  rw[bn.o]at aj ce|-
  have h5:=M.trans (a2.mono M.size)
  have ap:=G aj
  clear aj a2
  go_wp2_with fail
  refine(L9.o true _ h5).mono ?_
  rintro e W6 ⟨A6,c6,rfl,cf,ak,al⟩
  rw[bo.o]at ak cf|-
  have h6:=h5.trans (al.mono h5.size)
  have aq:=G (ap.o.below al)
  have bk:=G ak
  have e5:=bl.o
  have e6:=bm.o
  clear ak al ap L9
  go_wp2
  go_loop [13] (λu=>∃i:Nat,i<=ms.length/\u=I J i/\(∀t,t<ms.length->t<i->¬64<l0.getD t 0/\¬64<l1.getD t 0)) (λu=>ms.length-(intOf u).toNat)
  case atStart=>exact⟨0,Nat.zero_le _,rfl,λt _ h=>absurd h (Nat.not_lt_zero _)⟩
  obtain⟨i,hi,rfl,n⟩:=hrel
  have l:=G n
  clear n
  by_cases hlt:i<ms.length
  ·obtain⟨b5,o5,rfl,B⟩:=aq.o.at (k:=i) O
   obtain⟨b6,o6,rfl,D⟩:=bk.o.at (k:=i) O
   have c0:=B i O
   have c1:=D i O
   have g0:l0.getD i 0=l0[i]' O:=by simp[List.getD,e5,hlt]
   have g1:l1.getD i 0=l1[i]' O:=by simp[List.getD,e6,hlt]
   have V:=G (λ(h:64<l0.getD i 0\/64<l1.getD i 0)=>show r=13 from by
    rw[au.o,if_pos]
    rw[av.o,List.any_eq_true]
    exact⟨i,List.mem_range.2 hlt,by rw[Bool.or_eq_true,decide_eq_true_eq,decide_eq_true_eq];exact h⟩)
   have F:=G (λ(h:¬64<l0.getD i 0/\¬64<l1.getD i 0)=>show ∀t,t<ms.length->t<i+1->¬64<l0.getD t 0/\¬64<l1.getD t 0 from λt ht g=>by
    by_cases e:t=i
    ·subst e;exact h
    ·exact l.o t ht O)
   rw[g0,g1]at V F
   clear B D g0 g1
   generalize l0[i]' O=x0 at *
   generalize l1[i]' O=x1 at *
   by_cases h0:64<x0
   ·have s:=G (V.o (.inl h0))
    go_wp2
    go_ret
    exact⟨aH s.o.symm,p.o _ h6⟩
   by_cases q:64<x1
   ·have s:=G (V.o (.inr q))
    go_wp2
    go_ret
    exact⟨aH s.o.symm,p.o _ h6⟩
   have K:=G (F.o ⟨h0,q⟩)
   go_wp2
   go_round
   case rel=>exact⟨i+1,O,oN_,K.o⟩
   exact oI_
  ·have s:=U (r=0) (by
    rw[au.o,if_neg]
    rw[av.o,Bool.not_eq_true,List.any_eq_false]
    intro t ht
    have q:=List.mem_range.1 ht
    obtain⟨g1,g2⟩:=l.o t q O
    rw[Bool.or_eq_true,decide_eq_true_eq,decide_eq_true_eq]
    omega)
   go_wp2
   go_ret
   exact⟨aH s.o.symm,p.o _ h6⟩
end
section
open Go.RowKit
section
variable (on:Int->Option (Li))
inductive b_:Int->Li->Prop
 |leaf {c:Int}:on c=N->b_ c [c]
 |node {c:Int} {toq:Li} {vs:List (Li)}:on c=Z toq->vs.length=toq.length->(∀i,(hi:i<toq.length)->(hv:i<vs.length)->b_ toq[i] vs[i])->b_ c vs.flatten
end
section
variable {on:Int->Option (Li)}{cap:Int}
theorem b_.func{c:Int}{l:Li}(h:b_ on c l):∀{l'},b_ on c l'->l=l':=by
 induction h with
 |leaf h=>
  intro l' a;cases a with
  |leaf _=>rfl
  |node h1 _ _=>rw[h]at h1;cases h1
 |node h1 h2 _ ih=>
  intro l' a;cases a with
  |leaf h=>rw[h]at h1;cases h1
  | @node _ to' vs' g1 g2 g3=>
   rw[h1]at g1;injection g1 with g1;subst g1;congr 1;refine List.ext_getElem O λi hi hi'=>?_
   exact ih i O hi (g3 i O hi')
theorem b_.done{c:Int}{l:Li}(h:b_ on c l):∀e∈l,on e=N:=by
 induction h with
 |leaf h=>intro e he;simp at he;subst he;exact h
 |node h1 h2 _ ih=>
  intro e he;obtain⟨v,hv,he⟩:=List.mem_flatten.1 he;obtain⟨i,hi,rfl⟩:=List.getElem_of_mem hv;exact ih i O hi e he
theorem Sz.full{c v:Int}(h:Sz on cap c v)(hcap:1<=cap):∃l,b_ on c l/\(v<cap->(l.length:Int)<=v):=by
 induction h with
 | @leaf c h=>
  rcases h with h|h
  ·exact⟨[c],.leaf h,λ_=>L⟩
  exact⟨[],by simpa using b_.node (vs:=[]) h rfl (λi hi=>by simp at hi),λ_=>L⟩
 | @node c toq vs e h2 h3 h4 ih=>
  have a:∀i:Nat,∃l:Li,∀(hi:i<toq.length)(hv:i<vs.length),b_ on toq[i] l/\(vs[i]<cap->(l.length:Int)<=vs[i]):=λi=>by
   by_cases hi:i<toq.length
   ·obtain⟨l,d,g⟩:=ih i hi O
    exact⟨l,λ_ _=>⟨d,g⟩⟩
   exact⟨[],λh=>absurd h hi⟩
  refine⟨((List.range toq.length).map (λi=>(a i).choose)).flatten,.node e L (λi e h2=>?_),λhv=>?_⟩
  ·simp only[List.getElem_map,List.getElem_range]
   exact((a i).choose_spec e O).1
  have b:∀v∈vs,0<=v:=λv hv=>by
   obtain⟨i,hi,rfl⟩:=List.getElem_of_mem hv;have:=(h4 i O hi).bd hcap;omega
  rw[rT b O]at hv|-;have hs:vs.sum<cap:=O;have j:∀(ls:List (Li))(vs:Li),ls.length=vs.length->(∀v∈vs,0<=v)->vs.sum<cap->(∀i,(e:i<ls.length)->(h2:i<vs.length)->vs[i]<cap->(ls[i].length:Int)<=vs[i])->(ls.flatten.length:Int)<=vs.sum:=by
   intro ls;induction ls with
   |nil=>intro vs hl _ _ _;cases vs with|nil=>simp|cons _ _=>simp at hl
   |cons l ls ihl=>
    intro vs hl hp hs f;cases vs with
    |nil=>simp at hl
    |cons v vs=>
     rw[List.sum_cons]at hs;have hq:0<=vs.sum:=EM (λv hv=>hp v (by simp[hv]));have k:=f 0 L L (by simp only[List.getElem_cons_zero];omega);simp only[List.getElem_cons_zero]at k;have m:=hp v L
     have e:=ihl vs (by simpa using hl) (λv hv=>hp v (by simp[hv])) O (λi d g g3=>by
      have:=f (i+1) oU_ oU_
      simp only[List.getElem_cons_succ]at this
      exact this g3)
     rw[List.flatten_cons,List.length_append,List.sum_cons];omega
  have:=j ((List.range toq.length).map (λi=>(a i).choose)) vs (by simp[h3]) b hs (λi d g g3=>by
   simp only[List.getElem_map,List.getElem_range]
   simp at d
   exact((a i).choose_spec d g).2 g3)
  omega
end
def iD(fnd:Int->Option Nat)(T:List (Li))(e:Int):Li:=match fnd e with|none=>Hg.decomp e|some m=>T.getD m []
def eF(fnd:Int->Option Nat)(T:List (Li))(text:Li):Li:=text.flatMap (iD fnd T)
def cP(toq:Nat->Li)(fnd:Int->Option Nat)(skip:Nat->Bool)(T:List (Li))(i:Nat):List (Li):=if skip i=true then T else T.set i (eF fnd T (toq i))
def kD(toq:Nat->Li)(fnd:Int->Option Nat)(skip:Nat->Bool)(n:Nat):Nat->List (Li)
 |0=>List.replicate n []
 |r+1=>(List.range n).foldl (cP toq fnd skip) (kD toq fnd skip n r)
section
variable {n:Nat}{frm:Nat->Int}{toq:Nat->Li}{fnd fnd':Int->Option Nat}{on:Int->Option (Li)}{skip:Nat->Bool}
theorem uU(T:List (Li))(i:Nat):(cP toq fnd skip T i).length=T.length:=by unfold cP;split<;>simp
theorem zAd(s:List Nat):∀T:List (Li),(s.foldl (cP toq fnd skip) T).length=T.length:=by
 induction s with
 |nil=>intro T;rfl
 |cons x s ih=>intro T;exact(ih _).trans (uU T x)
structure qS(n:Nat)(frm:Nat->Int)(toq:Nat->Li)(fnd:Int->Option Nat)(on:Int->Option (Li))(skip:Nat->Bool):Prop where
 at_:∀i,i<n->skip i=false->on (frm i)=Z (toq i)
 fd:∀e m,fnd e=Z m->m<n/\frm m=e/\skip m=false
 no:∀e,fnd e=N->b_ on e (Hg.decomp e)
theorem OP{l:Li}{f:Int->Li}:(l.map f).flatten=l.flatMap f:=by rw[List.flatMap_def]
theorem zAg(M:qS n frm toq fnd on skip)(hsub:∀e m,fnd e=Z m->fnd' e=Z m)(s:List Nat)(hs:∀i∈s,i<n):
  ∀i,i<n->skip i=false->(s.foldl (aR toq fnd') (List.replicate n false)).getD i false=true->b_ on (frm i) ((s.foldl (cP toq fnd skip) (List.replicate n [])).getD i []):=by
 have b:∀s:List Nat,(s.foldl (aR toq fnd') (List.replicate n false)).length=n:=by
  intro s;have:∀(s:List Nat)(T:List Bool),T.length=n->(s.foldl (aR toq fnd') T).length=n:=by
   intro s;induction s with
   |nil=>intro T h;exact h
   |cons x s ih=>intro T h;exact ih _ (by simp[aR,h])
  exact this s _ oL_
 have q:∀k(s:List Nat),s.length=k->(∀i∈s,i<n)->∀i,i<n->skip i=false->(s.foldl (aR toq fnd') (List.replicate n false)).getD i false=true->b_ on (frm i) ((s.foldl (cP toq fnd skip) (List.replicate n [])).getD i []):=by
  intro k;induction k with
  |zero=>
   intro s hk _ i hi _ h;have:s=[]:=List.eq_nil_of_length_eq_zero hk;subst this;simp[List.getD,hi]at h
  |succ k ih=>
   intro s hk hs i hi c h;obtain⟨a,x,rfl⟩:∃a x,s=a++[x]:=⟨s.dropLast,s.getLast (by rintro rfl;simp at hk),(List.dropLast_concat_getLast _).symm⟩;have p:∀i∈a,i<n:=λj hj=>hs j (by simp[hj])
   have hx:x<n:=hs x oL_;have r:=ih a (by simpa using hk) p;rw[List.foldl_append]at h|-;simp only[List.foldl_cons,List.foldl_nil]at h|-;have v:=b a;have w:(a.foldl (cP toq fnd skip) (List.replicate n [])).length=n:=by rw[zAd];simp
   generalize a.foldl (aR toq fnd') (List.replicate n false)=T at *;generalize a.foldl (cP toq fnd skip) (List.replicate n [])=L at *;by_cases e:x=i
   ·subst e
    have f:jB toq fnd' T x=true:=by
     simpa[aR,List.getD,v,hi]using h
    have t:(cP toq fnd skip L x).getD x []=eF fnd L (toq x):=by
     unfold cP;rw[if_neg (by rw[c];simp)];simp[List.getD,w,hi]
    rw[t]
    have g:∀e∈toq x,b_ on e (iD fnd L e):=λe he=>by
     unfold iD;cases hf:fnd e with
     |none=>exact M.no e hf
     |some m=>
      obtain⟨hm,l,o⟩:=M.fd e m hf;have:=List.all_eq_true.1 f e he;rw[hsub e m hf]at this;have d:=r m hm o this;rw[l]at d;exact d
    unfold eF;rw[<-OP];refine .node (M.at_ x hi c) oL_ (λj hj hv=>?_);simp only[List.getElem_map];exact g _ (List.getElem_mem hj)
   have f:T.getD i false=true:=by
    simpa[aR,List.getD,List.getElem?_set,e]using h
   have d:=r i hi c f;have:(cP toq fnd skip L x).getD i []=L.getD i []:=by
    unfold cP;split
    ·rfl
    simp[List.getD,e]
   rw[this];exact d
 exact q s.length s rfl hs
theorem zAf(M:qS n frm toq fnd on skip)(s:List Nat)(hs:∀i∈s,i<n):∀(T:List (Li)),T.length=n->(∀i l,i<n->skip i=false->b_ on (frm i) l->(T.getD i []).length<=l.length)->
  ∀i l,i<n->skip i=false->b_ on (frm i) l->((s.foldl (cP toq fnd skip) T).getD i []).length<=l.length:=by
 induction s with
 |nil=>intro T _ h;exact h
 |cons x s ih=>
  intro T hl h;rw[List.foldl_cons];refine ih (λi hi=>hs i (by simp[hi])) _ (by rw[uU,hl]) (λi l hi hsk hf=>?_);have hx:=hs x L;by_cases e:x=i
  ·subst e
   have k:(cP toq fnd skip T x).getD x []=eF fnd T (toq x):=by
    unfold cP;rw[if_neg (by rw[hsk];simp)];simp[List.getD,hl,hi]
   rw[k];cases hf with
   |leaf g=>rw[M.at_ x hi hsk]at g;cases g
   | @node _ to' vs g1 g2 g3=>
    rw[M.at_ x hi hsk]at g1;injection g1 with g1;subst g1;have f:∀(toq:Li)(vs:List (Li)),vs.length=toq.length->(∀i,(hi:i<toq.length)->(hv:i<vs.length)->b_ on toq[i] vs[i])->(eF fnd T toq).length<=vs.flatten.length:=by
     intro toq;induction toq with
     |nil=>intro vs _ _;simp[eF]
     |cons e toq iht=>
      intro vs a hv;cases vs with
      |nil=>simp at a
      |cons v vs=>
       have j:=iht vs (by simpa using a) (λi g1 g2=>by have:=hv (i+1) oU_ oU_;simpa using this);have b:=hv 0 L L;simp only[List.getElem_cons_zero]at b;have o:(iD fnd T e).length<=v.length:=by
        unfold iD;cases hfe:fnd e with
        |none=>rw[(M.no e hfe).func b];exact Nat.le_refl _
        |some m=>
         obtain⟨hm,c,d⟩:=M.fd e m hfe;exact h m v hm d (by rw[c];exact b)
       unfold eF at j|-;rw[List.flatMap_cons,List.length_append,List.flatten_cons,List.length_append];omega
    exact f _ _ g2 g3
  have:(cP toq fnd skip T x).getD i []=T.getD i []:=by
   unfold cP;split
   ·rfl
   simp[List.getD,e]
  rw[this];exact h i l hi hsk hf
end
def jK(ms:List Mp)(compat:Bool):List (Li):=kD (toM ms) (aD ms compat) (aX ms compat) ms.length ms.length
def dcM(ms:List Mp)(compat:Bool)(c:Int):Li:=iD (aD ms compat) (jK ms compat) c
section
variable {ms:List Mp}
theorem vC(hh:dG ms)(compat:Bool){e:Int}(h:aD ms compat e=N):b_ (onM ms compat) e (Hg.decomp e):=by
 by_cases h4:4<=Hg.kind e
 ·obtain⟨g,c⟩:=lE h4
  have b:onM ms compat e=Z (Hg.decomp e):=if_pos h4
  have:=b_.node (on:=onM ms compat) (vs:=(Hg.decomp e).map (λx=>[x])) b L (λi h1 h2=>by
   simp only[List.getElem_map]
   obtain⟨_,a,f⟩:=c _ (List.getElem_mem h1)
   refine .leaf (AD hh compat f ?_)
   unfold hk at a
   split at a
   ·cases a
   ·omega)
  have d:((Hg.decomp e).map (λx=>[x])).flatten=Hg.decomp e:=by rw[<-List.flatMap_def];simp
  rw[d]at this;exact this
 rw[mB O];refine .leaf ?_;unfold onM;rw[if_neg h4,h];rfl
theorem pR(hs:StF ms)(hh:dG ms)(compat:Bool):qS ms.length (kQ ms) (toM ms) (aD ms compat) (onM ms compat) (aX ms compat):=by
 refine⟨λi hi hk=>?_,λe m h=>?_,λe h=>vC hh compat h⟩
 ·rw[gT hi,nB hs hh compat hi,kY hi,if_pos]
  unfold aX at hk;cases compat<;>simp_all [List.getD]
 obtain⟨hi,b,a⟩:=gS h;refine⟨hi,by rw[gT hi];exact b,?_⟩;unfold aX;rcases a with a|a
 ·rw[a];rfl
 simp[List.getD,hi,a]
theorem IU(hs:StF ms)(hh:dG ms)(he:dN ms=true)(hl:fE ms=false)(compat:Bool):∀i,i<ms.length->∃l,b_ (onM ms compat) (kQ ms i) l/\l.length<=64:=by
 intro i hi;have c:=n_ hs hh he compat i hi;have d:(gV ms compat).getD i 0<=64:=by
  unfold fE at hl;have:=List.any_eq_false.1 hl i (List.mem_range.2 hi);simp at this;cases compat
  ·simpa using this.1
  simpa using this.2
 obtain⟨l,a,b⟩:=c.full (by unfold aM;omega);rw[gT hi];refine⟨l,a,?_⟩;have:=b (by unfold aM;omega);omega
def fT(ms:List Mp)(compat:Bool)(T:List (Li)):Prop:=T.length=ms.length/\∀i l,i<ms.length->aX ms compat i=false->b_ (onM ms compat) (kQ ms i) l->(T.getD i []).length<=l.length
theorem fT.start(ms:List Mp)(compat:Bool):fT ms compat (List.replicate ms.length []):=⟨L,λi l hi _ _=>by simp[List.getD,hi]⟩
theorem fT.step(hs:StF ms)(hh:dG ms){compat:Bool}{T:List (Li)}(h:fT ms compat T){i:Nat}(hi:i<ms.length):fT ms compat (cP (toM ms) (aD ms compat) (aX ms compat) T i):=
 ⟨by rw[uU];exact h.1,zAf (pR hs hh compat) [i] (λj hj=>by simp at hj;subst hj;exact hi) T h.1 h.2⟩
theorem fT.fold(hs:StF ms)(hh:dG ms){compat:Bool}(s:List Nat):∀{T:List (Li)},fT ms compat T->(∀i∈s,i<ms.length)->fT ms compat (s.foldl (cP (toM ms) (aD ms compat) (aX ms compat)) T):=by
 induction s with
 |nil=>intro T h _;exact h
 |cons x s ih=>intro T h hx;exact ih (h.step hs hh (hx x L)) (λi hi=>hx i (by simp[hi]))
theorem fT.rounds(hs:StF ms)(hh:dG ms)(compat:Bool)(r:Nat):fT ms compat (kD (toM ms) (aD ms compat) (aX ms compat) ms.length r):=by
 induction r with
 |zero=>exact fT.start ms compat
 |succ r ih=>exact ih.fold hs hh _ (λi hi=>List.mem_range.1 hi)
def oS(ms:List Mp)(compat:Bool)(T:List (Li)):Prop:=∀i,aX ms compat i=true->T.getD i []=[]
theorem oS.step{compat:Bool}{T:List (Li)}(h:oS ms compat T)(i:Nat):oS ms compat (cP (toM ms) (aD ms compat) (aX ms compat) T i):=by
 intro j hj;unfold cP;split
 ·exact h j hj
 next hi=>
 have:i≠j:=λe=>by subst e;exact hi hj
 have:=h j hj;simp_all [List.getD]
theorem fT.le64(hs:StF ms)(hh:dG ms)(he:dN ms=true)(hl:fE ms=false){compat:Bool}{T:List (Li)}(h:fT ms compat T){i:Nat}(hi:i<ms.length)(hk:aX ms compat i=false):(T.getD i []).length<=64:=by
 obtain⟨l,a,b⟩:=IU hs hh he hl compat i hi;have:=h.2 i l hi hk a;omega
theorem zAe(hs:StF ms)(hh:dG ms)(he:dN ms=true)(compat:Bool){i:Nat}(hi:i<ms.length)(hk:aX ms compat i=false):b_ (onM ms compat) ms[i].frm ((jK ms compat).getD i []):=by
 have c:∀j∈(List.replicate ms.length (List.range ms.length)).flatten,j<ms.length:=λj hj=>by
  obtain⟨l,b,g⟩:=List.mem_flatten.1 hj;rw[List.eq_of_mem_replicate b]at g;exact List.mem_range.1 g
 have f:=zAg (pR hs hh compat) (yI hs compat) (List.replicate ms.length (List.range ms.length)).flatten c i hi hk;have d:=pN (aR (toM ms) (aD ms true)) ms.length (bY ms.length (toM ms) (aD ms true)) (λ_=>rfl) ms.length;have e:=pN (cP (toM ms) (aD ms compat) (aX ms compat)) ms.length (kD (toM ms) (aD ms compat) (aX ms compat) ms.length) (λ_=>rfl) ms.length;simp only[bY,kD]at d e;rw[d,e]at f;have hl:=(lQ ms.length (toM ms) (aD ms true) ms.length).1;have:(bY ms.length (toM ms) (aD ms true) ms.length).getD i false=true:=by
  unfold dN at he;have a:i<(bY ms.length (toM ms) (aD ms true) ms.length).length:=by rw[hl];exact hi
  have:=List.all_eq_true.1 he _ (List.getElem_mem a);simpa[List.getD,a]using this
 have b:=f this;rw[gT hi]at b;exact b
theorem nS(hs:StF ms)(hh:dG ms)(he:dN ms=true)(compat:Bool)(c:Int):b_ (onM ms compat) c (dcM ms compat c):=by
 unfold dcM iD;cases hf:aD ms compat c with
 |none=>exact vC hh compat hf
 |some m=>
  obtain⟨hm,a,_⟩:=gS hf;have hk:=((pR hs hh compat).fd c m hf).2.2;have:=zAe hs hh he compat hm hk;rw[a]at this;exact this
theorem xF(hs:StF ms)(hh:dG ms)(he:dN ms=true)(hl:fE ms=false)(compat:Bool)(c:Int):(dcM ms compat c).length<=64:=by
 unfold dcM iD;cases hf:aD ms compat c with
 |none=>
  by_cases h4:4<=Hg.kind c
  ·have:=(lE h4).1;dsimp only;omega
  dsimp only;rw[mB O];simp
 |some m=>
  obtain⟨hm,a,_⟩:=gS hf;have hk:=((pR hs hh compat).fd c m hf).2.2;exact(fT.rounds hs hh compat ms.length).le64 hs hh he hl hm hk
theorem NA(hs:StF ms)(hh:dG ms)(he:dN ms=true)(compat:Bool){c e:Int}(h:e∈dcM ms compat c):dcM ms compat e=[e]:=
 (nS hs hh he compat e).func (.leaf ((nS hs hh he compat c).done e h))
end
end
namespace Srt
section
variable {α:Type}{key:α->Int}
theorem SortedOn.le{d:List α}{a b i j:Nat}(h:SortedOn key d a b)(h1:a<=i)(h2:i<=j)(h3:j<b):kf key d i<=kf key d j:=by
 by_cases e:i=j
 ·subst e;exact Int.le_refl _
 exact h i j h1 O h3
theorem found_of{d:List α}{a m b st s0 r0:Nat}(ham:a<m)(h1:SortedOn key d a m)(h2:SortedOn key d m b)
  (hs:((a+b)/2<m/\s0=(a+b)/2+m-b/\r0=(a+b)/2)\/(m<=(a+b)/2/\s0=a/\r0=m))
  (hlo:s0<=st) (hhi:st<=r0) (hyes:∀c,s0<=c->c<st->kf key d c<=kf key d ((a+b)/2+m-1-c)) (hno:∀c,st<=c->c<r0->kf key d ((a+b)/2+m-1-c)<kf key d c) :
  Found key d a m b st:=by
 generalize hM:(a+b)/2=M at *;have r:2*M<=a+b:=O;have s:a+b<=2*M+1:=O;have k:a<=st:=O;have o:st<=m:=O;have p:st<=M:=O;have q:M+m-st<=b:=O;refine⟨k,o,?_,?_,?_,?_,?_⟩
 ·rw[hM];omega
 ·rw[hM];exact q
 ·rw[hM];exact p
 ·intro i j g l f h
  rw[hM]at f;by_cases e:s0<st
  ·have n:=hyes (st-1) O O
   rw[show M+m-1-(st-1)=M+m-st by omega]at n;have t:=h1.le (i:=i) (j:=st-1) g O O;have v:=h2.le (i:=M+m-st) (j:=j) O f h;omega
  omega
 intro i j g l f h;rw[hM]at h;by_cases e:st<r0
 ·have n:=hno st (Nat.le_refl _) e
  have t:=h1.le (i:=st) (j:=i) k g l;have v:=h2.le (i:=j) (j:=M+m-1-st) f O O;omega
 omega
theorem rot_triv{d:List α}{a m b:Nat}(h1:a<=m)(h2:m<=b)(h:a=m\/m=b):Rot d d a m b:=by
 refine⟨rfl,λt=>?_⟩;(repeat' split)<;>first|rfl|(congr 1;omega)
theorem seg_mem{d d':List α}{a b:Nat}(hs:Same d d' a b)(ht:St key d d')(hab:a<=b)(hb:b<=d.length){i:Nat}(h1:a<=i)(h2:i<b):
  ∃i',a<=i'/\i' < b/\d'[i]?=d[i']?:=by
 have g:=parts d a a b (Nat.le_refl _) hab;have f:=parts d' a a b (Nat.le_refl _) hab;simp only[Nat.sub_self,List.take_zero,List.nil_append]at g f;have h:d'.take a=d.take a:=by
  apply List.ext_getElem?;intro t;simp only[List.getElem?_take];split
  ·exact hs.2 t O
  rfl
 have j:d'.drop b=d.drop b:=by
  apply List.ext_getElem?;intro t;simp only[List.getElem?_drop];exact hs.2 _ O
 rw[h,j]at f;have e:i<d'.length:=by rw[hs.1];omega
 obtain⟨x,hx⟩:∃x,d'[i]?=Z x:=⟨_,List.getElem?_eq_getElem e⟩;have hf:=ht (key x);rw[g,f]at hf;simp only[List.filter_append,List.append_assoc,List.append_cancel_left_eq,List.append_cancel_right_eq]at hf;have c:x∈((d'.drop a).take (b-a)).filter (λy=>key y==key x):=by
  rw[List.mem_filter];refine⟨?_,L⟩;rw[List.mem_iff_getElem?];refine⟨i-a,?_⟩;rw[List.getElem?_take,if_pos O,List.getElem?_drop,show a+(i-a)=i by omega,hx]
 rw[hf,List.mem_filter]at c;obtain⟨q,hq⟩:=List.mem_iff_getElem?.1 c.1;rw[List.getElem?_take]at hq;split at hq
 ·rw[List.getElem?_drop]at hq
  exact⟨a+q,O,O,by rw[hx,hq]⟩
 cases hq
theorem seg_kf{d d':List α}{a b:Nat}(hs:Same d d' a b)(ht:St key d d')(hab:a<=b)(hb:b<=d.length){i:Nat}(h1:a<=i)(h2:i<b):
  ∃i',a<=i'/\i' < b/\kf key d' i=kf key d i':=by
 obtain⟨i',c,e,f⟩:=seg_mem hs ht hab hb h1 h2;exact⟨i',c,e,by unfold kf;rw[f]⟩
theorem Done.refl_of{d:List α}{a b:Nat}(h:SortedOn key d a b):Done key d d a b:=⟨Same.refl _ _ _,St.refl _,h⟩
theorem left_done{d1 d2:List α}{a st M:Nat}(h1:SortedOn key d1 a st)(h2:SortedOn key d1 st M)(g1:a<st/\st<M->Done key d1 d2 a M)(g2:¬(a<st/\st<M)->d2=d1)(hast:a<=st)(hstM:st<=M):Done key d1 d2 a M:=by
 by_cases h:a<st/\st<M
 ·exact g1 h
 rw[g2 h];refine Done.refl_of ?_;by_cases e:a=st
 ·subst e;exact h2
 obtain rfl:st=M:=O;exact h1
theorem both_done{d d1 d2 d3:List α}{a M b:Nat}(haM:a<=M)(hMb:M<=b)(hb:b<=d.length)(h0:Same d d1 a b)(t0:St key d d1)
  (hx:∀i j,a<=i->i<M->M<=j->j<b->kf key d1 i<=kf key d1 j) (hl:Done key d1 d2 a M) (hr:Done key d2 d3 M b):Done key d d3 a b:=by
 refine⟨(h0.trans (hl.1.mono (Nat.le_refl _) hMb)).trans (hr.1.mono haM (Nat.le_refl _)),(t0.trans hl.2.1).trans hr.2.1,?_⟩;refine SortedOn.join (hl.2.2.same hr.1 (.inl (Nat.le_refl _))) hr.2.2 ?_;intro i j m n o p;rw[hr.1.kf (t:=i) O];obtain⟨q,e,f,g⟩:=seg_kf hl.1 hl.2.1 haM (by rw[h0.1];omega) m n;obtain⟨c,h,k,l⟩:=seg_kf hr.1 hr.2.1 hMb (by rw[hl.1.1,h0.1];omega) o p;rw[g,l,hl.1.kf (t:=c) O];exact hx q c e f h k
def Bl(key:α->Int)(d:List α)(bs s n:Nat):Prop:=∀r,SortedOn key d (s+r*bs) (min (s+(r+1)*bs) n)
theorem Bl.first{d:List α}{bs s n:Nat}(h:Bl key d bs s n):SortedOn key d s (min (s+bs) n):=by
 have:=h 0;simpa using this
theorem Bl.next{d:List α}{bs s n:Nat}(h:Bl key d bs s n):Bl key d bs (s+bs) n:=by
 intro r;have:=h (r+1);rw[show s+bs+r*bs=s+(r+1)*bs by rw[Nat.add_mul];omega,show s+bs+(r+1)*bs=s+(r+1+1)*bs by rw[Nat.add_mul (r+1)];omega];exact this
theorem Bl.same{d d':List α}{bs s n x y:Nat}(h:Bl key d bs s n)(hs:Same d d' x y)(hd:y<=s):Bl key d' bs s n:=λr=>(h r).same hs (.inr O)
theorem Bl.all{d:List α}{bs n:Nat}(h:Bl key d bs 0 n)(hn:n<=bs):SortedOn key d 0 n:=by
 have:=h.first
 rw[Nat.zero_add,Nat.min_eq_right hn]at this;exact this
def Pf(key:α->Int)(d:List α)(bs q:Nat):Prop:=∀r,r<q->SortedOn key d (r*bs) (r*bs+bs)
theorem Pf.zero{d:List α}{bs:Nat}:Pf key d bs 0:=λr h=>O
theorem Pf.succ{d d':List α}{bs q:Nat}(h:Pf key d bs q)(hs:Same d d' (q*bs) (q*bs+bs))(hn:SortedOn key d' (q*bs) (q*bs+bs)):Pf key d' bs (q+1):=by
 intro r hr;by_cases e:r=q
 ·subst e;exact hn
 refine(h r O).same hs (.inl ?_);have:=Nat.mul_le_mul_right bs (show r+1<=q by omega);rw[Nat.add_mul]at this;omega
theorem Bl.of_pf{d d':List α}{bs q n:Nat}(h:Pf key d bs q)(hq:q*bs<=n)(hn:n<q*bs+bs)(hs:Same d d' (q*bs) n)(hl:SortedOn key d' (q*bs) n):Bl key d' bs 0 n:=by
 intro r;rw[Nat.zero_add,Nat.zero_add];by_cases e:r<q
 ·have a:=Nat.mul_le_mul_right bs (show r+1<=q by omega)
  rw[Nat.min_eq_left O,Nat.add_mul];rw[Nat.add_mul]at a;rw[Nat.one_mul];exact(h r e).same hs (.inl O)
 by_cases e2:r=q
 ·subst e2
  rw[Nat.min_eq_right (by rw[Nat.add_mul];omega)];exact hl
 have a:=Nat.mul_le_mul_right bs (show q+1<=r by omega);rw[Nat.add_mul]at a;intro i j b c f;omega
theorem rot_snoc{d d1:List α}{a k:Nat}{x y:α}(h:Rot d d1 a (a+1) (k+1))(hak:a<=k)(hx:d1[k]?=Z x)(hy:d1[k+1]?=Z y):Rot d (swp d1 k (k+1) x y) a (a+1) (k+2):=by
 refine⟨(swp_len _ _ _ _ _).trans h.1,λt=>?_⟩;rw[swp_get d1 k (k+1) t x y hx hy O,h.2,h.2,h.2];(repeat' split)<;>first|rfl|omega|(congr 1;omega)
theorem rot_cons{d d1:List α}{k m:Nat}{x y:α}(h:Rot d d1 (k+1) m (m+1))(hkm:k+1<=m)(hx:d1[k]?=Z x)(hy:d1[k+1]?=Z y):Rot d (swp d1 k (k+1) x y) k m (m+1):=by
 refine⟨(swp_len _ _ _ _ _).trans h.1,λt=>?_⟩;rw[swp_get d1 k (k+1) t x y hx hy O,h.2,h.2,h.2];(repeat' split)<;>first|rfl|omega|(congr 1;omega)
end
end Srt
end Go.Proofs.YtkhmjidaeliccaaGreatDoor
