import Derived.Test.YtkhmjidaeliccaaGreatDoorD00
import Derived.Test.YtkhmjidaeliccaaGreatDoorD04
import Derived.Test.YtkhmjidaeliccaaGreatDoorD24
import Derived.Laws.BytesArg
set_option maxRecDepth 100000
set_option maxHeartbeats 51200000
namespace Go.Proofs.YtkhmjidaeliccaaGreatDoor
open Option renaming none->N,some->Z
open Value renaming int->I,slice->H
open IntKind renaming i64->J
open Go.Proofs.Tryz
section
open Go.RowKit Tl Pa
theorem pN(c:Nat)(hc:c≠0)(t:ByteArray)(ht:t=⟨#[UInt8.ofNat c]⟩)(h8:c<256):Wrd t [c]:=by
 subst ht;refine⟨rfl,fun k h h2=>?_,fun x hx=>by rw[List.mem_singleton.1 hx];exact hc⟩;obtain rfl:k=0:=by simp at h2;omega
 show(UInt8.ofNat c).toNat=c
 rw[UInt8.toNat_ofNat',Nat.mod_eq_of_lt h8]
def nC(a:Int)(v:Value)(_:Wv):Prop:=v=I J a
theorem UK{s:ByteArray}{n:Nat}{l:Int}{i:Nat}(h:bt s i=60):sgnN s (n+1) l i=sgnN s n (l+1) (i+1):=by
 conv=>lhs;unfold sgnN
 rw[if_pos h]
theorem UL{s:ByteArray}{n:Nat}{l:Int}{i:Nat}(h:¬bt s i=60):sgnN s n l i=(l,i):=by
 cases n with
 |zero=>rfl
 |succ n=>unfold sgnN;rw[if_neg h]
theorem RG(P:Nat)(s:ByteArray)(i:Nat)(w:Wv)(hP:PsB w P s i)(hi:i<=s.size)(hs:s.size<=9223372036854775806):
  Calls prog 116 #[.pointer (Z ⟨P,0,N⟩)] w (RdR P s nC (sgn s i) w):=by
 have HP:=G (hP.here);have KN:=G (fun j(W:Wv)(h:aP P s w j W)(hj:j<=s.size)=>nL P s j W h.box hj);have KE:=G (fun(W:Wv) (h:aP P s w i W)=>mY P s ⟨#[60]⟩ [60] i W h.box hi hs (pN 60 (by decide) _ rfl (by decide)) (by decide));unfold RdR at KE;clear hP;obtain⟨r,hr⟩:∃r,sgn s i=r:=⟨_,rfl⟩;have HR0:=G hr;rw[hr];clear hr;have KN0:=G (KN.out i w HP.out hi);by_cases h1:bt s i=61
 ·have d1:((bt s i:Int)==61)=true:=by simp;omega
  have HR1:=U (r=.ok (0,i+1)) (by rw[<-HR0.out];unfold sgn;rw[if_pos h1]);have hin:=bt_in (s:=s) (i:=i) (by omega);clear h1 HR0;generalize bt s i=b at *;go_enter func116,ntmps116;go_wp2_with fail;with_reducible refine KN0.out.mono ?_
  rintro e W1 ⟨rfl,hp1⟩;have HW:=G hp1;have c1:=HW.out.c1;have f1:=HW.out.f1;clear hp1 KN0 KN KE;go_wp2_with fail;go_ret;rw[HR1.out];exact⟨⟨_,rfl,rfl⟩,HW.out.go (i+1)⟩
 have d1:((bt s i:Int)==61)=false:=by simp;omega
 have HR1:=U (r=match wrd s [60] i with | .error e=>.error e | .ok (_,j)=>.ok (sgnN s 2 1 j)) (by rw[<-HR0.out];unfold sgn;rw[if_neg h1];(try(cases wrd s [60] i<;>rfl)));clear h1 HR0;generalize bt s i=b at *;go_enter func116,ntmps116;go_wp2_with fail;with_reducible refine KN0.out.mono ?_
 rintro e W1 ⟨rfl,hp1⟩;have KE1:=G (KE.out W1 hp1);have HW:=G hp1;clear hp1 KN0 KE;cases hq:wrd s [60] i with
 |error f=>
  rw[hq]at HR1 KE1;clear hq;go_wp2_with fail;with_reducible refine KE1.out.mono ?_
  rintro e W2 ⟨⟨u,pv,rfl⟩,hp2⟩;have HW2:=G (HW.out.trans hp2);clear hp2;go_wp2_with fail;rw[HR1.out];exact⟨rfl,⟨_,_,rfl⟩,HW2.out⟩
 |ok q=>
  obtain⟨u0,j⟩:=q;have hjs:=(wrd_ok (by simp) hq).2 (by simp);rw[hq]at HR1 KE1;clear hq;have HR2:=U (r=.ok (sgnN s 2 1 j)) HR1.out;go_wp2_with fail;with_reducible refine KE1.out.mono ?_
  rintro e W2 ⟨⟨v,rfl,rfl⟩,hp2⟩;have HW2:=G (HW.out.trans hp2);clear hp2 HR1 KE1 HW;go_wp2_with fail;go_loopw [3] (fun u wr=>∃(m k:Nat),m<=2/\k<=s.size/\u=I J (3-(m:Int))/\Hid (sgnN s m (3-(m:Int)) k=sgnN s 2 1 j)/\aP P s w k wr) (fun u _=>(3-intOf u).toNat)
  case atStart=>exact⟨2,j,Nat.le_refl _,hjs,rfl,G rfl,HW2.out⟩
  obtain⟨m,k,hm,hk,rfl,hb,hp⟩:=hrel;have HR:=G hp;clear hp;cases m with
  |zero=>
   have d2:decide ((3:Int)-((0:Nat):Int)<3)=false:=by decide
   have HF:=U (r=.ok (3,k)) (by rw[HR2.out,<-hb.out];rfl);clear hb HR2 KN;go_wp2_with fail;go_ret;rw[HF.out];exact⟨⟨_,rfl,rfl⟩,HR.out⟩
  |succ m=>
   have KN1:=G (KN.out k _ HR.out hk);obtain⟨lv,hlv⟩:∃lv:Int,3-((m+1:Nat):Int)=lv:=⟨_,rfl⟩;have hlv1:1<=lv:=by omega
   have hlv2:lv<3:=by omega
   have HLV:=U (lv+1=3-(m:Int)) (by omega);rw[hlv]at hb|-;clear hlv;have d2:decide (lv<3)=true:=by simpa using hlv2
   by_cases h2:bt s k=60
   ·have d3:((bt s k:Int)==60)=true:=by simp;omega
    have hin:=bt_in (s:=s) (i:=k) (by omega);have hst:=U (sgnN s m (lv+1) (k+1)=sgnN s 2 1 j) (by rw[<-hb.out,UK h2]);clear h2 hb;generalize bt s k=b2 at *;go_wp2_with fail;with_reducible refine KN1.out.mono ?_
    rintro e W3 ⟨rfl,hp3⟩;have HW3:=G (HR.out.trans hp3);have c1:=HW3.out.c1;have f1:=HW3.out.f1;clear hp3 KN1 KN;go_wp2_with fail;go_roundw
    case rel=>exact⟨m,k+1,by omega,hin,by rw[<-HLV.out],by rw[<-HLV.out];exact hst,HW3.out.go (k+1)⟩
    simp[intOf];omega
   have d3:((bt s k:Int)==60)=false:=by simp;omega
   have HF:=U (r=.ok (lv,k)) (by rw[HR2.out,<-hb.out,UL h2]);clear h2 hb HR2;generalize bt s k=b2 at *;go_wp2_with fail;with_reducible refine KN1.out.mono ?_
   rintro e W3 ⟨rfl,hp3⟩;have HW3:=G (HR.out.trans hp3);clear hp3 KN1 KN;go_wp2_with fail;go_ret;rw[HF.out];exact⟨⟨_,rfl,rfl⟩,HW3.out⟩
theorem RD:∀{k:Nat},k<=3->(1:Int)<=16^k/\(16:Int)^k<=4096
 |0,_=>by decide
 |1,_=>by decide
 |2,_=>by decide
 |3,_=>by decide
 |k+4,h=>by omega
theorem GG(s:ByteArray)(i:Nat):Pa.code s i=match four s 4 0 i with | .error e=>.error e | .ok (c,j)=>.ok (more s c j):=by
 unfold Pa.code;cases four s 4 0 i<;>rfl
theorem QY(P:Nat)(s:ByteArray)(i:Nat)(w:Wv)(hP:PsB w P s i)(hi:i<=s.size)(hs:s.size<=9223372036854775806):
  Calls prog 162 #[.pointer (Z ⟨P,0,N⟩)] w (RdR P s nC (Pa.code s i) w):=by
 have HP:=G (hP.here);have KN:=G (fun j(W:Wv)(h:aP P s w j W)(hj:j<=s.size)=>nL P s j W h.box hj);have KF:=G (fun j(W:Wv)(h:aP P s w j W)=>vO P s j W h.box);obtain⟨r,hr⟩:∃r,Pa.code s i=r:=⟨_,rfl⟩;have HR0:=U (r=match four s 4 0 i with | .error e=>.error e | .ok (c,j)=>.ok (more s c j)) (by rw[<-hr,GG]);rw[hr];clear hP hr;go_enter func162,ntmps162;go_wp2_with fail;go_loopw [3,6] (fun u v wr=>∃(k p:Nat)(c:Int),k<=4/\p<=s.size/\0<=c/\c<16^k/\u=I J c/\v=I J k/\Hid (four s (4-k) c p=four s 4 0 i)/\aP P s w p wr) (fun _ v _=>(4-intOf v).toNat)
 case atStart=>exact⟨0,i,0,by omega,hi,by decide,by decide,rfl,rfl,G rfl,HP.out⟩
 obtain⟨k,p,c,hk,hp,hc0,hc1,rfl,rfl,hb,hps⟩:=hrel;have HR:=G hps;clear hps;by_cases hlt:k<4
 ·obtain⟨q1,q2⟩:=RD (k:=k) (by omega)
  have hc2:c<=4095:=by omega
  have HC:=U (∀d:Int,d<=15->16*c+d<16^(k+1)) (fun d hd=>by rw[Int.pow_succ];omega);have KN1:=G (KN.out p _ HR.out hp);have hlt8:=bt_256 s p;obtain⟨m,hm⟩:∃m,4-k=m+1:=⟨3-k,by omega⟩;have HM:=U (4-(k+1)=m) (by omega);have hst:four s (4-k) c p=if dg (bt s p)<0 then .error p else four s m (16*c+dg (bt s p)) (p+1):=by rw[hm];rfl
  have hin:=dg_in (s:=s) (i:=p);have hbd:=dg_bd (bt s p);have HST:=G (hb.out.symm.trans hst);have KD:=G (fun W=>vE (bt s p) hlt8 W);clear hst hb hm q1 q2 hc1 hlt8;generalize bt s p=b at *;generalize dg b=d at *;by_cases hd:d<0
  ·have dd:decide (d<0)=true:=by simpa using hd
   have HF:=U (r=.error p) (by rw[HR0.out,HST.out,if_pos hd]);clear hin HC HST HR0 HM;go_wp2_with fail;with_reducible refine KN1.out.mono ?_
   rintro e W1 ⟨rfl,hp1⟩;have HW:=G (HR.out.trans hp1);clear hp1 KN1;go_wp2_with fail;with_reducible refine(KD.out _).mono ?_
   rintro e W2 ⟨rfl,rfl⟩;go_wp2_with fail;with_reducible refine(KF.out p _ HW.out).mono ?_
   rintro e W3 ⟨⟨u,pv,rfl⟩,rfl⟩;go_wp2_with fail;rw[HF.out];exact⟨rfl,⟨_,_,rfl⟩,HW.out⟩
  have dd:decide (d<0)=false:=by simpa using hd
  have hd0:0<=d:=by omega
  have hd1:d<=15:=hbd.2;have HN:=U (four s (4-(k+1)) (16*c+d) (p+1)=four s 4 0 i) (by rw[HM.out,HST.out,if_neg hd]);have hin2:=hin hd;have hc3:=HC.out d hd1;have HC3:=G hc3;clear hin HC HST HR0 HM hd hbd hc3;go_wp2_with fail;with_reducible refine KN1.out.mono ?_
  rintro e W1 ⟨rfl,hp1⟩;have HW:=G (HR.out.trans hp1);have c1:=HW.out.c1;have f1:=HW.out.f1;clear hp1 KN1;go_wp2_with fail;with_reducible refine(KD.out _).mono ?_
  rintro e W2 ⟨rfl,rfl⟩;go_wp2_with fail;go_roundw
  case rel=>exact⟨k+1,p+1,16*c+d,by omega,by omega,by omega,HC3.out,rfl,by go_num,HN,HW.out.go (p+1)⟩
  simp[intOf];omega
 have hk4:=U (k=4) (by omega);have hc2:c<=65535:=by rw[hk4.out]at hc1;omega
 have HF:=U (r=.ok (more s c p)) (by rw[HR0.out,<-hb.out,hk4.out];rfl);have d0:decide ((k:Int)<4)=false:=by simp;omega
 clear HR0 hb hc1 HP;go_wp2_with fail;go_loopw [3] (fun u wr=>∃(q:Nat)(z:Int),q<=s.size/\0<=z/\z<=1114111/\u=I J z/\Hid (more s z q=more s c p)/\aP P s w q wr) (fun u _=>(1114111-intOf u).toNat)
 case atStart=>exact⟨p,c,hp,hc0,by omega,rfl,G rfl,HR.out⟩
 obtain⟨q,z,hq,hz0,hz1,rfl,hb,hps⟩:=hrel;have HS:=G hps;clear hps HR;by_cases hz4:4096<=z
 ·have d1:decide (4096<=z)=true:=by simpa using hz4
  have KN1:=G (KN.out q _ HS.out hq);have hlt8:=bt_256 s q;have hin:=dg_in (s:=s) (i:=q);have hbd:=dg_bd (bt s q);have KD:=G (fun W=>vE (bt s q) hlt8 W);have M1:=G (fun h=>more_step (s:=s) (c:=z) (i:=q) h);have M2:=G (fun h=>more_stop (s:=s) (c:=z) (i:=q) h);clear hlt8;generalize bt s q=b at *;generalize dg b=d at *;by_cases hd:d<0
  ·have dd:decide (d<0)=true:=by simpa using hd
   have HG:=U (r=.ok (z,q)) (by rw[HF.out,<-hb.out,M2.out (by omega)]);clear hin hb HF M1 M2;go_wp2_with fail;with_reducible refine KN1.out.mono ?_
   rintro e W1 ⟨rfl,hp1⟩;have HW:=G (HS.out.trans hp1);clear hp1 KN1;go_wp2_with fail;with_reducible refine(KD.out _).mono ?_
   rintro e W2 ⟨rfl,rfl⟩;go_wp2_with fail;go_ret;rw[HG.out];exact⟨⟨_,rfl,rfl⟩,HW.out⟩
  have dd:decide (d<0)=false:=by simpa using hd
  have hd0:0<=d:=by omega
  have hd1:d<=15:=hbd.2;have hin2:=hin hd;by_cases hbig:1114111<16*z+d
  ·have d3:decide (1114111<16*z+d)=true:=by simpa using hbig
   have HG:=U (r=.ok (z,q)) (by rw[HF.out,<-hb.out,M2.out (by omega)]);clear hin hb HF M1 M2 hd hbd;go_wp2_with fail;with_reducible refine KN1.out.mono ?_
   rintro e W1 ⟨rfl,hp1⟩;have HW:=G (HS.out.trans hp1);clear hp1 KN1;go_wp2_with fail;with_reducible refine(KD.out _).mono ?_
   rintro e W2 ⟨rfl,rfl⟩;go_wp2_with fail;go_ret;rw[HG.out];exact⟨⟨_,rfl,rfl⟩,HW.out⟩
  have d3:decide (1114111<16*z+d)=false:=by simpa using hbig
  have HN:=U (more s (16*z+d) (q+1)=more s c p) (by rw[<-M1.out (by omega),hb.out]);have hb3:16*z+d<=1114111:=by omega
  clear hin hb M1 M2 hd hbd hbig;go_wp2_with fail;with_reducible refine KN1.out.mono ?_
  rintro e W1 ⟨rfl,hp1⟩;have HW:=G (HS.out.trans hp1);have c1:=HW.out.c1;have f1:=HW.out.f1;clear hp1 KN1;go_wp2_with fail;with_reducible refine(KD.out _).mono ?_
  rintro e W2 ⟨rfl,rfl⟩;go_wp2_with fail;go_roundw
  case rel=>exact⟨q+1,16*z+d,by omega,by omega,hb3,rfl,HN,HW.out.go (q+1)⟩
  simp[intOf];omega
 have d1:decide (4096<=z)=false:=by simpa using hz4
 have HG:=U (r=.ok (z,q)) (by rw[HF.out,<-hb.out,more_stop (by omega)]);clear hb HF;go_wp2_with fail;go_ret;rw[HG.out];exact⟨⟨_,rfl,rfl⟩,HS.out⟩
theorem wX{s:ByteArray}:∀(n m:Nat)(a:Li)(i:Nat),s.size-i<=n->s.size-i<=m->litN s n a i=litN s m a i
 |0,0,a,i,_,_=>rfl
 |0,m+1,a,i,h,_=>by
  have e:litN s (m+1) a i=.ok (a,i):=by
   unfold litN;rw[if_neg (by rw[bt_end (by omega)];decide)]
  rw[e];rfl
 |n+1,0,a,i,_,h=>by
  have e:litN s (n+1) a i=.ok (a,i):=by
   unfold litN;rw[if_neg (by rw[bt_end (by omega)];decide)]
  rw[e];rfl
 |n+1,m+1,a,i,h1,h2=>by
  unfold litN;by_cases h0:bt s i=32
  ·rw[if_pos h0,if_pos h0]
   cases hc:Pa.code s (i+1)with
   |error e=>rfl
   |ok q=>
    obtain⟨c,j⟩:=q;have:=code_ok hc;exact wX n m _ j (by omega) (by omega)
  rw[if_neg h0,if_neg h0]
def gR(s:ByteArray)(a:Li)(i:Nat):Rd (Li):=litN s (s.size-i) a i
theorem NW{s:ByteArray}{a:Li}{i:Nat}(h:¬bt s i=32):gR s a i=.ok (a,i):=by
 unfold gR;cases s.size-i with
 |zero=>rfl
 |succ n=>unfold litN;rw[if_neg h]
theorem NV{s:ByteArray}{a:Li}{i:Nat}(h:bt s i=32):gR s a i=match Pa.code s (i+1)with | .error e=>.error e | .ok (c,j)=>gR s (a++[c]) j:=by
 have hin:=bt_in (s:=s) (i:=i) (by omega);unfold gR;rw[show s.size-i=(s.size-(i+1))+1 by omega];conv=>lhs;unfold litN
 rw[if_pos h];cases hc:Pa.code s (i+1)with
 |error e=>rfl
 |ok q=>
  obtain⟨c,j⟩:=q;have:=code_ok hc;exact wX _ _ _ j (by omega) (Nat.le_refl _)
theorem NY(s:ByteArray)(i:Nat):lit s i=match wrd s [40] i with
  | .error e=>.error e
  | .ok (_,i1)=>match Pa.code s i1 with
   | .error e=>.error e
   | .ok (c,i2)=>match gR s [c] i2 with
    | .error e=>.error e
    | .ok (l,i3)=>match wrd s [41] i3 with
     | .error e=>.error e
     | .ok (_,i4)=>.ok (l,skp s i4):=by
 unfold lit gR;cases wrd s [40] i with
 |error e=>rfl
 |ok q=>
  cases Pa.code s q.2 with
  |error e=>rfl
  |ok q2=>
   cases litN s (s.size-q2.2) [q2.1] q2.2 with
   |error e=>rfl
   |ok q3=>
    cases wrd s [41] q3.2<;>rfl
def xZ(w:Wv)(l:Li)(v:Value)(w':Wv):Prop:=∃A c,v=H A l.length c/\w'.ownsRow w.heap.size 3 1 (H A l.length c) l.length (l.map (Value.int .i64))
section
variable {P i j n m:Nat}{s:ByteArray}{w w' w'':Wv}
theorem aP.low(h:aP P s w j w')(hP:P<w.heap.size)(hb:Below w.heap.size w' w''):aP P s w j w'':=⟨h.box.below hb hP,⟨hb.os.trans h.gr.os,hb.tape.trans h.gr.tape,hb.output.trans h.gr.output,Nat.le_trans h.gr.size hb.size,fun k hk hne=>(hb.block k hk).trans (h.gr.block k hk hne)⟩⟩
theorem kH{base size:Nat}{e:TypeId}{v:Value}{xs:Lv}(h:w.ownsRow base e size v n xs)(hg:w.grownBy w' (Z P))(hP:P<base):w'.ownsRow base e size v n xs:=by
 refine h.kept hg ?_;cases hb:v.ownBlock with
 |none=>exact .inl rfl
 |some q=>
  right;intro e;have:=(h.lt q hb).1;injection e with e;omega
end
theorem RA(P:Nat)(s:ByteArray)(i:Nat)(w:Wv)(hP:PsB w P s i)(hi:i<=s.size)(hs:s.size<=65536):
  Calls prog 115 #[.pointer (Z ⟨P,0,N⟩)] w (RdR P s (xZ w) (lit s i) w):=by
 have HP:=G (hP.here);have hPl:P<w.heap.size:=hP.lt;have KN:=G (fun j(W:Wv)(h:aP P s w j W)(hj:j<=s.size)=>nL P s j W h.box hj);have KE:=G (mY P s ⟨#[40]⟩ [40] i w hP hi (by omega) (pN 40 (by decide) _ rfl (by decide)) (by decide));have KG:=G (fun j(W:Wv)(h:aP P s w j W)(hj:j<=s.size)=>mY P s ⟨#[41]⟩ [41] j W h.box hj (by omega) (pN 41 (by decide) _ rfl (by decide)) (by decide));have KC:=G (fun j(W:Wv)(h:aP P s w j W)(hj:j<=s.size)=>QY P s j W h.box hj (by omega));have KB:=G (fun j(W:Wv)(h:aP P s w j W)(hj:j<=s.size)=>qN P s j W h.box hj (by omega));unfold RdR at KE KG KC;obtain⟨r,hr⟩:∃r,lit s i=r:=⟨_,rfl⟩;have HR0:=G (hr.symm.trans (NY s i));rw[hr];clear hP hr;cases h1:wrd s [40] i with
 |error f=>
  rw[h1]at HR0 KE;have HF:=U (r=.error f) HR0.out;clear h1 HR0;go_enter func115,ntmps115;go_wp2_with fail;with_reducible refine KE.out.mono ?_
  rintro e W1 ⟨⟨u,pv,rfl⟩,hp1⟩;have HW:=G hp1;clear hp1;go_wp2_with fail;rw[HF.out];exact⟨rfl,⟨_,_,rfl⟩,HW.out⟩
 |ok q1=>
 obtain⟨u1,i1⟩:=q1;have hi1:=(wrd_ok (by simp) h1).2 (by simp);rw[h1]at HR0 KE;clear h1;dsimp only at HR0 KE;cases h2:Pa.code s i1 with
 |error f=>
  have KC1:=G (fun(W:Wv) (h:aP P s w i1 W)=>KC.out i1 W h hi1);rw[h2]at HR0 KC1;have HF:=U (r=.error f) HR0.out;clear h2 HR0;go_enter func115,ntmps115;go_wp2_with fail;with_reducible refine KE.out.mono ?_
  rintro e W1 ⟨⟨v,rfl,rfl⟩,hp1⟩;have HW:=G hp1;have KC2:=G (KC1.out W1 hp1);clear hp1 KC1 KC KE;go_wp2_with fail;with_reducible refine KC2.out.mono ?_
  rintro e W2 ⟨⟨u,pv,rfl⟩,hp2⟩;have HW2:=G (HW.out.trans hp2);clear hp2;go_wp2_with fail;rw[HF.out];exact⟨rfl,⟨_,_,rfl⟩,HW2.out⟩
 |ok q2=>
 obtain⟨z0,i2⟩:=q2;have hi2:=code_ok h2;have KC1:=G (fun(W:Wv) (h:aP P s w i1 W)=>KC.out i1 W h hi1);rw[h2]at HR0 KC1;clear h2;dsimp only at HR0 KC1;go_enter func115,ntmps115;go_wp2_with fail;with_reducible refine KE.out.mono ?_
 rintro e W1 ⟨⟨v,rfl,rfl⟩,hp1⟩;have HW:=G hp1;have KC2:=G (KC1.out W1 hp1);clear hp1 KC1 KE;go_wp2_with fail;with_reducible refine KC2.out.mono ?_
 rintro e W2 ⟨⟨v,rfl,rfl⟩,hp2⟩;have HW2:=G (HW.out.trans hp2);have hz2:=HW2.out.gr.size;clear hp2 KC2;go_wp2_with fail;go_loopw [3] (fun u wr=>∃(l:Li)(A:Oa)(c p:Nat),l.length<=p/\p<=s.size/\u=H A l.length c/\Hid (gR s l p=gR s [z0] i2)/\wr.ownsRow w.heap.size 3 1 (H A l.length c) l.length (l.map (Value.int .i64))/\aP P s w p wr) (fun _ wr=>s.size-fY P wr)
 case atStart=>
  refine⟨[z0],_,_,i2,by simp;omega,hi2.2,rfl,G rfl,nN [I J z0] 3 1 1 w.heap.size rfl rfl hz2 (by decide),HW2.out.below (ba _ _)⟩
 obtain⟨l,A,c,p,hlp,hp,rfl,hb,ho,hps⟩:=hrel;have HR:=G hps;have HO:=G ho;have KN1:=G (KN.out p _ hps hp);clear hps ho;by_cases h32:bt s p=32
 ·have d1:((bt s p:Int)==32)=true:=by simp;omega
  have hin:=bt_in (s:=s) (i:=p) (by omega);have HST:=G (hb.out.symm.trans (NV h32));have KC1:=G (fun(W:Wv) (h:aP P s w (p+1) W)=>KC.out (p+1) W h hin);clear h32 hb;generalize bt s p=b at *;cases h3:Pa.code s (p+1)with
  |error f=>
   rw[h3]at HST KC1;have HF:=U (r=.error f) (by rw[HR0.out,HST.out]);clear h3 HST HR0;go_wp2_with fail;with_reducible refine KN1.out.mono ?_
   rintro e W3 ⟨rfl,hp3⟩;have HW3:=G (HR.out.trans hp3);have c1:=HW3.out.c1;have f1:=HW3.out.f1;have HW4:=U (aP P s w (p+1) (W3.setCell ⟨P,1,N⟩ (I J ((p:Int)+1)))) (HW3.out.go (p+1));have KC3:=G (KC1.out _ HW4.out);clear hp3 KN1 KC1;go_wp2_with fail;with_reducible refine KC3.out.mono ?_
   rintro e W5 ⟨⟨u,pv,rfl⟩,hp5⟩;have HW5:=G (HW4.out.trans hp5);clear hp5;go_wp2_with fail;rw[HF.out];exact⟨rfl,⟨_,_,rfl⟩,HW5.out⟩
  |ok q3=>
   obtain⟨z,j⟩:=q3;have hj:=code_ok h3;rw[h3]at HST KC1;have HN:=U (gR s (l++[z]) j=gR s [z0] i2) HST.out.symm;clear h3 HST;dsimp only at KC1;go_wp2_with fail;with_reducible refine KN1.out.mono ?_
   rintro e W3 ⟨rfl,hp3⟩;have HW3:=G (HR.out.trans hp3);have c1:=HW3.out.c1;have f1:=HW3.out.f1;have HW4:=U (aP P s w (p+1) (W3.setCell ⟨P,1,N⟩ (I J ((p:Int)+1)))) (HW3.out.go (p+1));have KC3:=G (KC1.out _ HW4.out);have HO3:=G (kH HO.out hp3.gr hPl);have HO4:=G (kH HO3.out (bT W3 ⟨P,1,N⟩ (I J ((p:Int)+1))) hPl);clear hp3 KN1 KC1;go_wp2_with fail;with_reducible refine KC3.out.mono ?_
   rintro e W5 ⟨⟨v,rfl,rfl⟩,hp5⟩;have HW5:=G (HW4.out.trans hp5);have hz5:=HW5.out.gr.size;have HO5:=G (kH HO4.out hp5.gr hPl);clear hp5 HO HO3 HO4 KC3 c1 f1;go_wp2_with(at_builtin;refine cJ _ _ 33 3 (I J 0) 1 8 rfl rfl underlying33 bK rfl (by decide) (by decide) rfl (HO5.out.alloc _) rfl (fN W5 [z] _ rfl) (by simp) (dJ _) (by omega) (by simp;omega) ?_;intro K3 k3 w3 hown3 hc3 hb3 hg3 hB3);have HO6:=G hown3;have HW6:=G ((HW5.out.below (ba _ _)).low hPl hb3);clear hown3 hc3 hb3 hg3 hB3;go_wp2_with fail;go_roundw
   case rel=>exact⟨l++[z],K3,k3,j,by simp;omega,hj.2,by rw[List.length_append];rfl,HN,by rw[List.length_append,List.map_append];exact HO6.out,HW6.out⟩
   rw[HW6.out.at,HR.out.at];omega
 have d1:((bt s p:Int)==32)=false:=by simp;omega
 have HQ:=U (gR s [z0] i2=.ok (l,p)) (by rw[<-hb.out,NW h32]);have KG1:=G (fun(W:Wv) (h:aP P s w p W)=>KG.out p W h hp);clear h32 hb;generalize bt s p=b at *;cases h4:wrd s [41] p with
 |error f=>
  have HF:=U (r=.error f) (by rw[HR0.out,HQ.out];dsimp only;rw[h4]);rw[h4]at KG1;clear h4 HQ HR0;go_wp2_with fail;with_reducible refine KN1.out.mono ?_
  rintro e W3 ⟨rfl,hp3⟩;have HW3:=G (HR.out.trans hp3);have KG2:=G (KG1.out W3 HW3.out);clear hp3 KN1 KG1;go_wp2_with fail;with_reducible refine KG2.out.mono ?_
  rintro e W4 ⟨⟨u,pv,rfl⟩,hp4⟩;have HW4:=G (HW3.out.trans hp4);clear hp4;go_wp2_with fail;rw[HF.out];exact⟨rfl,⟨_,_,rfl⟩,HW4.out⟩
 |ok q4=>
  obtain⟨u4,i4⟩:=q4;have hi4:=(wrd_ok (by simp) h4).2 (by simp);have HF:=U (r=.ok (l,skp s i4)) (by rw[HR0.out,HQ.out];dsimp only;rw[h4]);rw[h4]at KG1;dsimp only at KG1;clear h4 HQ HR0;go_wp2_with fail;with_reducible refine KN1.out.mono ?_
  rintro e W3 ⟨rfl,hp3⟩;have HW3:=G (HR.out.trans hp3);have KG2:=G (KG1.out W3 HW3.out);have HO3:=G (kH HO.out hp3.gr hPl);clear hp3 KN1 KG1;go_wp2_with fail;with_reducible refine KG2.out.mono ?_
  rintro e W4 ⟨⟨v,rfl,rfl⟩,hp4⟩;have HW4:=G (HW3.out.trans hp4);have HO4:=G (kH HO3.out hp4.gr hPl);have KB2:=G (KB.out i4 W4 HW4.out hi4);clear hp4 KG2;go_wp2_with fail;with_reducible refine KB2.out.mono ?_
  rintro e W5 ⟨rfl,hp5⟩;have HW5:=G (HW4.out.trans hp5);have HO5:=G (kH HO4.out hp5.gr hPl);clear hp5 KB2;go_wp2_with fail;go_ret;rw[HF.out];exact⟨⟨_,rfl,_,_,rfl,HO5.out⟩,HW5.out⟩
end
namespace Pa
open Go.RowKit Tl
structure Pre(s s':ByteArray)(e:Nat):Prop where
 sz:s'.size=e
 le:e<=s.size
 eq:∀i,i<e->bt s' i=bt s i
section
variable {s s':ByteArray}{e:Nat}
theorem Pre.z(h:Pre s s' e){i:Nat}(hi:e<=i):bt s' i=0:=bt_end (by rw[h.sz];omega)
def bfr(s:ByteArray)(i:Nat):Rd Bool:=if bt s i=91 then(match wrd s [91,98,101,102,111,114,101,93] i with | .error e=>.error e | .ok (_,j)=>.ok (true,skp s j))else .ok (false,i)
theorem bfr_ok{s:ByteArray}{b:Bool}{i j:Nat}(h:bfr s i=.ok (b,j)):i<=j/\(bt s i=91->i<j):=by
 unfold bfr at h;split at h
 ·next h0=>
  split at h
  ·cases h
  next u j1 h1=>
  injection h with h;injection h with _ h;have g1:=(wrd_ok (by simp) h1).1;have g2:=blk_le s j1;simp at g1;omega
 next h0=>
 injection h with h;injection h with _ h;exact⟨by omega,fun q=>absurd q h0⟩
theorem chn_eq(s:ByteArray)(l:List Tlr)(i:Nat):chn s l i=match wrd s [38] i with
  | .error e=>.error e
  | .ok (_,i1)=>
   match bfr s (skp s i1)with
   | .error e=>.error e
   | .ok (b,i2)=>
    match lit s i2 with
    | .error e=>.error e
    | .ok (a,i3)=>stpN s (s.size+1-i3) a b l i3:=rfl
end
end Pa
namespace Pa
open Go.RowKit Tl
def hd(d:Int):Int:=if d<10 then 48+d else 55+d
def hexI(c:Int):Li:=
 if c<65536 then [hd (c/4096),hd (c/256%16),hd (c/16%16),hd (c%16)]
 else if c<1048576 then [hd (c/65536),hd (c/4096%16),hd (c/256%16),hd (c/16%16),hd (c%16)]
 else [hd (c/1048576),hd (c/65536%16),hd (c/4096%16),hd (c/256%16),hd (c/16%16),hd (c%16)]
def codI:Li->Li
 | []=>[]
 | [c]=>hexI c
 |c::d::r=>hexI c++32::codI (d::r)
def sgnI(k:Int):Li:=if k=0 then [61]else if k=1 then [60]else if k=2 then [60,60]else [60,60,60]
def befI(b:Bool):Li:=if b=true then [91,98,101,102,111,114,101,93,32]else []
def stpI(t:Tlr):Li:=[38,32]++(befI t.bef++(40::codI t.anc++([41,32]++(sgnI t.lvl++([32,40]++(codI t.cds++[41,10]))))))
def txtI(l:List Tlr):Li:=l.flatMap stpI
def At(s:ByteArray)(i:Nat)(r:Li):Prop:=i+r.length=s.size/\∀k,(bt s (i+k):Int)=r.getD k 0
section
variable {s:ByteArray}{i:Nat}{c:Int}{r:Li}
theorem At.hd(h:At s i (c::r)):(bt s i:Int)=c:=h.2 0
theorem At.tl(h:At s i (c::r)):At s (i+1) r:=⟨by have:=h.1;simp at this;omega,fun k=>by
 have:=h.2 (k+1)
 rw[show i+1+k=i+(k+1) by omega,this]
 rfl⟩
theorem At.nil(h:At s i []):i=s.size:=by have:=h.1;simpa using this
theorem At.app:∀{l:Li}{i:Nat},At s i (l++r)->At s (i+l.length) r
 | [],i,h=>h
 |c::l,i,h=>by
  have:=At.app (l:=l) (At.tl h);rw[show i+1+l.length=i+(c::l).length by simp;omega]at this;exact this
theorem At.stop(h:At s i (c::r))(hc:¬(c=32\/c=10)):skp s i=i:=blk_stop (by have:=h.hd;omega)
theorem codI_eq(c:Int):∀l:Li,codI (c::l)=hexI c++l.flatMap fun c=>32::hexI c
 | []=>by simp[codI]
 |d::l=>by
  show hexI c++32::codI (d::l)=_
  rw[codI_eq d l];simp
theorem hexI_len(c:Int):4<=(hexI c).length/\(hexI c).length<=6:=by
 unfold hexI;split
 ·simp
 split<;>simp
theorem fl_len:∀l:Li,5*l.length<=(l.flatMap fun c=>32::hexI c).length/\(l.flatMap fun c=>32::hexI c).length<=7*l.length
 | []=>by simp
 |c::l=>by
  have h1:=fl_len l;have h2:=hexI_len c;rw[List.flatMap_cons,List.length_append,List.length_cons,List.length_cons];omega
theorem codI_len(l:Li):(codI l).length<=7*l.length:=by
 cases l with
 |nil=>simp[codI]
 |cons c l=>
  have h1:=fl_len l;have h2:=hexI_len c;rw[codI_eq,List.length_append,List.length_cons];omega
end
end Pa
namespace Pa
open Go.RowKit Tl
section
variable {s:ByteArray}
theorem four_bd:∀{n:Nat}{c d:Int}{i j:Nat}(B:Int),0<=c->c<=B->four s n c i=.ok (d,j)->0<=d/\d<=16^n*B+(16^n-1)
 |0,c,d,i,j,B,h0,hB,h=>by
  injection h with h;injection h with h _;subst h;simp;exact⟨h0,hB⟩
 |n+1,c,d,i,j,B,h0,hB,h=>by
  unfold four at h;split at h
  ·cases h
  next h1=>
  have hd:=dg_bd (bt s i);have g:=four_bd (16*B+15) (by omega) (by omega) h;refine⟨g.1,?_⟩;have e:(16:Int)^(n+1)=16^n*16:=Int.pow_succ 16 n;rw[e];have e2:(16:Int)^n*(16*B+15)+(16^n-1)=16^n*16*B+(16^n*16-1):=by
   rw[Int.mul_add,Int.mul_assoc];omega
  omega
theorem moreN_bd:∀{n:Nat}{c:Int}{i:Nat},0<=c->c<=1114111->0<=(moreN s n c i).1/\(moreN s n c i).1<=1114111
 |0,c,i,h0,h1=>⟨h0,h1⟩
 |n+1,c,i,h0,h1=>by
  unfold moreN;split
  ·next g=>exact moreN_bd (by omega) g.2.2
  exact⟨h0,h1⟩
theorem code_bd{i j:Nat}{c:Int}(h:code s i=.ok (c,j)):0<=c/\c<=1114111:=by
 unfold code at h;split at h
 ·cases h
 next c' k hf=>
 injection h with h;have g:=four_bd 0 (Int.le_refl _) (Int.le_refl _) hf;have g2:c'<=65535:=g.2;have g3:=moreN_bd (s:=s) (n:=s.size-k) (i:=k) g.1 (by omega);unfold more at h;rw[h]at g3;exact g3
theorem litN_bd:∀{n:Nat}{a l:Li}{i j:Nat},(∀c∈a,0<=c/\c<=1114111)->i<=s.size->litN s n a i=.ok (l,j)->(∀c∈l,0<=c/\c<=1114111)/\a.length<=l.length/\l.length+i<=a.length+j
 |0,a,l,i,j,ha,_,h=>by
  injection h with h;injection h with h h';subst h;subst h';exact⟨ha,Nat.le_refl _,Nat.le_refl _⟩
 |n+1,a,l,i,j,ha,hi,h=>by
  unfold litN at h;split at h
  ·split at h
   ·cases h
   next c k hc=>
   have g1:=code_ok hc;have g2:=code_bd hc
   have g3:=litN_bd (by
    intro x hx
    rcases List.mem_append.1 hx with hx|hx
    ·exact ha x hx
    ·rw[List.mem_singleton.1 hx];exact g2) g1.2 h
   refine⟨g3.1,?_,?_⟩
   ·have:=g3.2.1;simp at this;omega
   have:=g3.2.2;simp at this;omega
  injection h with h;injection h with h h';subst h;subst h';exact⟨ha,Nat.le_refl _,Nat.le_refl _⟩
theorem lit_bd{l:Li}{i j:Nat}(h:lit s i=.ok (l,j)):rngT l=true/\l.length+2+i<=j:=by
 unfold lit at h;split at h
 ·cases h
 next h1=>
 split at h
 ·cases h
 next c i2 h2=>
 split at h
 ·cases h
 next h3=>
 split at h
 ·cases h
 next i4 h4=>
 injection h with h;injection h with ha hb;subst ha;have g1:=(wrd_ok (by simp) h1).1;have g2:=code_ok h2;have g2b:=code_bd h2;have g3:=litN_bd (by intro x hx;rw[List.mem_singleton.1 hx];exact g2b) g2.2 h3;have g4:=(wrd_ok (by simp) h4).1;have g6:=blk_le s i4;simp at g1 g4 g3;refine⟨?_,by omega⟩;unfold rngT;simp only[Bool.and_eq_true,Bool.not_eq_true',List.all_eq_true,decide_eq_true_eq];refine⟨?_,g3.1⟩;cases hl:(List.isEmpty _)with
 |false=>rfl
 |true=>rw[List.isEmpty_iff]at hl;rw[hl]at g3;simp at g3
end
theorem stpI_len(t:Tlr):(stpI t).length<=21+7*(t.anc.length+t.cds.length):=by
 have h1:=codI_len t.anc;have h2:=codI_len t.cds;have h3:(befI t.bef).length<=9:=by unfold befI;split<;>simp
 have h4:(sgnI t.lvl).length<=3:=by unfold sgnI;(repeat' split)<;>simp
 unfold stpI;simp only[List.length_append,List.length_cons,List.length_nil];omega
def txtErr(l:List Tlr):Int:=if l.all (fun t=>rngT t.anc&&rngT t.cds)=true then(if l.all kndT=true then 0 else 8)else 1
end Pa
end Go.Proofs.YtkhmjidaeliccaaGreatDoor
