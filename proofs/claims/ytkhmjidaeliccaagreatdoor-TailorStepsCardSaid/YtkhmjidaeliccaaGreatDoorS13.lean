import Derived.Test.YtkhmjidaeliccaaGreatDoorS12
set_option maxRecDepth 100000
set_option maxHeartbeats 51200000
namespace Go.Proofs.YtkhmjidaeliccaaGreatDoor
open Option renaming none->N,some->Z
open Value renaming int->I,slice->H
open IntKind renaming i64->J
open Go.Proofs.Tryz
section
open Go.RowKit Go.Maps Go.WideMaps
def i_(w:Wv)(B:Oa)(T:List (Li)):Prop:=∃vs:Lv,Sl w B vs/\vs.length=T.length/\∀i,(hi:i<T.length)->(hv:i<vs.length)->∃C c,vs[i]=H C T[i].length c/\T[i].length<=c/\aA w C T[i]
theorem i_.below{w w':Wv}{B:Oa}{T:List (Li)}(h:i_ w B T)(hb:By w w'):i_ w' B T:=by
 obtain⟨vs,e,f,g⟩:=h;exact⟨vs,e.below hb,f,λi hi hv=>by obtain⟨C,c,a,b,d⟩:=g i hi hv;exact⟨C,c,a,b,d.below hb⟩⟩
theorem i_.at{w:Wv}{B:Oa}{T:List (Li)}(h:i_ w B T){m:Nat}(hm:m<T.length):∃b o C c,B=Z ⟨b,o,N⟩/\w.cell? ⟨b,o+m,N⟩=Z (H C T[m].length c)/\T[m].length<=c/\aA w C T[m]:=by
 obtain⟨vs,f,j,g⟩:=h;have hv:m<vs.length:=O;obtain⟨C,c,a,d,e⟩:=g m hm hv;obtain⟨b,o,i,hc⟩:=f.at hv;exact⟨b,o,C,c,i,hc m _ (by rw[List.getElem?_eq_getElem hv,a]),d,e⟩
theorem yZ{W:Wv}{b i:Nat}{t:TypeId}{cs:Lv}{v:Value}{E:Oa}{R:Li}(h:aA W E R)(hX:Box W b t cs)(hv:∀(j:Nat) (z:Int),¬cs[j]?=Z (Value.int .i64 z)):aA (W.setCell ⟨b,i,N⟩ v) E R:=by
 intro c;obtain⟨d,o,g,hc⟩:=h c;refine⟨d,o,g,λj u hu=>?_⟩;have a:=hc j u hu;refine(World.cell?_setCell_far _ _ _ _ (λe=>?_)).trans a;have f:b=d:=e;subst f
 obtain⟨z,rfl⟩:∃z,u=I J z:=by
  have hm:=List.mem_of_getElem? hu;obtain⟨z,_,rfl⟩:=List.mem_map.1 hm;exact⟨z,rfl⟩
 unfold Box at hX;simp[World.cell?,hX]at a;exact hv _ _ a
def eU(w:Wv)(b:Nat)(T:List (Li)):Prop:=∃vs:Lv,Box w b 33 vs/\vs.length=T.length/\∀i,(hi:i<T.length)->(hv:i<vs.length)->∃C c,vs[i]=H C T[i].length c/\T[i].length<=c/\aA w C T[i]
theorem eU.rows{w:Wv}{b:Nat}{T:List (Li)}(h:eU w b T):i_ w (Z ⟨b,0,N⟩) T:=by
 obtain⟨vs,a,c,d⟩:=h;exact⟨vs,a.sl,c,d⟩
theorem eU.lt{w:Wv}{b:Nat}{T:List (Li)}(h:eU w b T):b<w.heap.size:=by obtain⟨vs,a,_⟩:=h;exact a.lt
theorem eU.below{w w':Wv}{b:Nat}{T:List (Li)}(h:eU w b T)(hb:By w w'):eU w' b T:=by
 obtain⟨vs,f,g,j⟩:=h;exact⟨vs,bb f hb,g,λi hi hv=>by obtain⟨C,c,a,d,e⟩:=j i hi hv;exact⟨C,c,a,d,e.below hb⟩⟩
theorem eU.set{w:Wv}{b:Nat}{T:List (Li)}(h:eU w b T){i:Nat}{E:Oa}{l:Li}{d:Nat}(hd:l.length<=d)(hE:aA w E l):eU (w.setCell ⟨b,i,N⟩ (H E l.length d)) b (T.set i l):=by
 obtain⟨vs,k,o,m⟩:=h;have a:∀(j:Nat)(z:Int),¬vs[j]?=Z (Value.int .i64 z):=by
  intro j z e;obtain⟨hj,f⟩:=List.getElem?_eq_some_iff.1 e;obtain⟨C,c,g,_⟩:=m j O hj;rw[g]at f;cases f
 refine⟨_,k.set i _,by simp[o],λj hj hv=>?_⟩;rw[List.getElem_set,List.getElem_set];by_cases hij:i=j
 ·subst hij
  rw[if_pos rfl,if_pos rfl];exact⟨E,d,rfl,hd,yZ hE k a⟩
 rw[if_neg hij,if_neg hij];simp only[List.length_set]at hj hv;obtain⟨C,c,g,f,n⟩:=m j hj hv;exact⟨C,c,g,f,yZ n k a⟩
theorem eU.cell{w:Wv}{b:Nat}{T:List (Li)}(h:eU w b T){i:Nat}(hi:i<T.length):(∃v,w.cell? ⟨b,i,N⟩=Z v)/\w.frozen? ⟨b,i,N⟩=false:=by
 obtain⟨vs,a,c,d⟩:=h;exact⟨⟨_,a.cell (List.getElem?_eq_getElem O)⟩,a.free i⟩
theorem eU.new(w:Wv)(n:Nat):eU (w.alloc (.cells (eE n (Value.slice N 0 0)).toArray 33)) w.heap.size (List.replicate n []):=by
 refine⟨_,Box.new w 33 (eE n (Value.slice N 0 0)) rfl,by simp[eE],λi hi hv=>⟨N,0,?_,?_,?_⟩⟩
 ·simp[eE]
 ·simp
 rw[List.getElem_replicate];exact Sl.nil _ _
theorem SV(n:Nat)(hn:n<=1048576)(W:Wv):(Instr.makeSlice 117 (I J n) (I J n)).run prog W=.ok (H (Z ⟨W.heap.size,0,N⟩) n n) (W.alloc (.cells (eE n (Value.slice N 0 0)).toArray 33)):=by
 have a:(prog.info? 33).map (λi=>(i.zero,i.size,i.bytes))=Z (Z (H N 0 0),1,24):=oK_;obtain⟨i,hi,hz,c,b⟩:=info_parts a;have:=run_make (P:=prog) W 117 33 i (H N 0 0) underlying117 hi hz .i64 .i64 n n O O (by rw[b];omega) O;rw[this,c];simp only[Int.toNat_natCast,Nat.mul_one,tP (H N 0 0) rfl]
section
variable {fnd:Int->Option Nat}{T:List (Li)}
theorem CJ(h64:∀m,(hm:m<T.length)->T[m].length<=64)(e:Int):(iD fnd T e).length<=64:=by
 unfold iD;cases fnd e with
 |none=>have:=(xI e).2;unfold dlM at this;dsimp only;omega
 |some m=>
  dsimp only;by_cases hm:m<T.length
  ·have:=h64 m hm;simpa[List.getD,hm]using this
  simp[List.getD,Nat.le_of_not_lt hm]
theorem WS(h64:∀m,(hm:m<T.length)->T[m].length<=64)(l:Li):(eF fnd T l).length<=64*l.length:=by
 unfold eF;induction l with
 |nil=>simp
 |cons e l ih=>have:=CJ (fnd:=fnd) h64 e;rw[List.flatMap_cons,List.length_append,List.length_cons];omega
theorem WT{l:Li}{i:Nat}(hi:i<l.length):eF fnd T (l.take (i+1))=eF fnd T (l.take i)++iD fnd T l[i]:=by
 unfold eF;rw[List.take_succ_eq_append_getElem hi,List.flatMap_append];simp
end
theorem CN(A1:Oa)(n1 k1:Nat)(ms:List Mp)(B:Oa)(nb kb:Nat)(T:List (Li))(A:Oa)(n k:Nat)(t:Li)(compat:Bool)(w:Wv)
  (hM:Mps w A1 ms) (hn1:ms.length=n1) (hz:n1<=1048576) (hT:i_ w B T) (hTl:T.length=ms.length) (hnb:T.length=nb) (hA:aA w A t) (hn:t.length=n) (hbig:n<=1048576) (h64:∀m,(hm:m<T.length)->T[m].length<=64) :
  Calls prog 155 #[H A1 n1 k1,H B nb kb,H A n k,.bool compat] w (kI (eF (aD ms compat) T t) w):=by
 subst hn;subst hn1;subst hnb;have FD:=G (λc W(hb:By w W)=>pG A1 ms.length k1 ms c compat W (hM.below hb) rfl hz);have DC:=G (λc W=>BT c W);have HF:=G (λc=>pJ ms compat c);have HT:=G hT;have HA:=G hA;have Y:=G (λi(hi:i<t.length)=>WT (fnd:=aD ms compat) (T:=T) hi);have X:=G (λi=>WS (fnd:=aD ms compat) h64 (t.take i));have Q:=G (λc=>CJ (fnd:=aD ms compat) h64 c);have R:=U (eF (aD ms compat) T (t.take t.length)=eF (aD ms compat) T t) (by rw[List.take_length]);have p:=U (eF (aD ms compat) T (t.take 0)=[]) rfl;have K:=G (λc=>show iD (aD ms compat) T c=(match aD ms compat c with|none=>Hg.decomp c|some m=>T.getD m [])from rfl);have aq:=G h64;have ab:=G hTl;have af:w.heap.size<=w.heap.size:=Nat.le_refl _;clear hM hT hA h64 hTl;generalize eF (aD ms compat) T=RL at *;generalize iD (aD ms compat) T=RE at *;generalize aD ms compat=FM at *;go_enter func155,ntmps155;go_wp2;go_loopw [9,10] (λv u wr=>∃(i:Nat)(S:Oa)(c:Nat),i<=t.length/\u=I J i/\v=H S (RL (t.take i)).length c/\wr.ownsRow w.heap.size 3 1 (H S (RL (t.take i)).length c) (RL (t.take i)).length ((RL (t.take i)).map (Value.int .i64))/\By w wr) (λ_ u _=>t.length-(intOf u).toNat)
 case atStart=>exact⟨0,N,0,Nat.zero_le _,rfl,by rw[p.o];rfl,by rw[p.o];exact World.ownsRow_nil _ _ _ _,Below.refl _ _⟩
 obtain⟨i,S,c,hi,rfl,rfl,h,hb⟩:=hrel;have o:=G h;clear h;by_cases hlt:i<t.length
 ·obtain⟨b1,o1,rfl,b⟩:=(HA.o.below hb).at hlt
  have c0:=b i hlt;have aj:=X.o i;rw[List.length_take]at aj;have g:=G (Y.o i hlt);clear b;generalize t[i]=z at *;have ax:=Q.o z;have f:=G (K.o z);have E:=G (FD.o z wr hb);generalize RE z=ez at *;generalize hP:RL (t.take i)=P at *;clear hP;rcases HF.o z with⟨q,r⟩|⟨m,hm,q,r⟩
  ·rw[r]at E
   have d:=f.o;rw[q]at d;dsimp only at d;have DZ:=G (DC.o z wr);rw[<-d]at DZ;have d0:decide ((0:Int)<=-1)=false:=V;clear q r f d;go_wp2_with fail;refine E.o.mono ?_
   rintro e W' ⟨rfl,rfl⟩;go_wp2_with fail;refine DZ.o.mono ?_
   rintro e W' ⟨A3,c3,rfl,aw,ae,s⟩;have M:=G (aG o.o s);have x:=tb hb s;go_wp2_with(at_builtin;refine a_ _ _ 33 3 (I J 0) 1 8 rfl rfl underlying33 cU rfl V V rfl M.o rfl ae L (cJ _) O x.size ?_;intro F k9 w9 a ai l ah ad);have j:=x.trans l;go_roundw
   case rel=>exact⟨i+1,F,k9,O,oN_,by rw[g.o,List.length_append],by rw[g.o,List.length_append,List.map_append];exact a,j⟩
   exact oI_
  rw[r]at E;have D:m<T.length:=by have:=ab.o;omega
  have d:=f.o;rw[q]at d;dsimp only at d;have hg:T.getD m []=T[m]:=by simp[List.getD,D]
  rw[hg]at d;obtain⟨b2,o2,C,cc,rfl,r0,ag,hC⟩:=(HT.o.below hb).at D;rw[<-d]at r0 ag hC;clear q r f d hg;go_wp2_with fail;refine E.o.mono ?_
  rintro e W' ⟨rfl,rfl⟩;go_wp2_with(at_builtin;refine a_ _ _ 33 3 (I J 0) 1 8 rfl rfl underlying33 cU rfl V V rfl o.o rfl hC L (cJ _) O hb.size ?_;intro F k9 w9 a ai l ah ad);have j:=hb.trans l;go_roundw
  case rel=>exact⟨i+1,F,k9,O,oN_,by rw[g.o,List.length_append],by rw[g.o,List.length_append,List.map_append];exact a,j⟩
  exact oI_
 obtain rfl:i=t.length:=O;have e:=R.o;rw[e]at o;have y:=uC o.o;have aa:=G (Sl.of_own o.o);rw[e];clear e;generalize RL t=P at *;go_wp2;go_ret;exact⟨S,c,rfl,y,aa.o,hb⟩
def GZ(T:List (Li))(w:Wv)(e:Ending)(w':Wv):Prop:=∃B c,e=.returned (H B T.length c)/\i_ w' B T/\By w w'
def gL(ms:List Mp)(compat:Bool)(T:List (Li)):Prop:=fT ms compat T/\oS ms compat T
theorem gL.len64{ms:List Mp}(hs:StF ms)(hh:dG ms)(he:dN ms=true)(hl:fE ms=false){compat:Bool}{T:List (Li)}(h:gL ms compat T):∀m,(hm:m<T.length)->T[m].length<=64:=by
 intro m hm;have hg:T.getD m []=T[m]:=by simp[List.getD,hm]
 rw[<-hg];cases hk:aX ms compat m with
 |false=>exact h.1.le64 hs hh he hl (by rw[<-h.1.1];exact hm) hk
 |true=>rw[h.2 m hk];simp
theorem gL.start(ms:List Mp)(compat:Bool):gL ms compat (List.replicate ms.length []):=⟨fT.start ms compat,λi _=>by
 by_cases hi:i<ms.length
 ·simp[List.getD,hi]
 ·simp[List.getD,hi]⟩
theorem zAh(A:Oa)(n k:Nat)(ms:List Mp)(compat:Bool)(w:Wv)(hA:Mps w A ms)(hn:ms.length=n)(hbig:n<=1048576)(hz:∀i,(hi:i<ms.length)->ms[i].toq.length<=1048576)
  (hs:StF ms) (hh:dG ms) (he:dN ms=true) (hl:fE ms=false) :
  Calls prog 156 #[H A n k,.bool compat] w (λe w'=>gL ms compat (jK ms compat)/\GZ (jK ms compat) w e w'):=by
 subst hn;have RC:=G (λB T A2 n2 k2 l W(hb:By w W)(hT:i_ W B T)(c:gL ms compat T)(hA2:aA W A2 l)(hn2:l.length=n2)(b:n2<=1048576)=>CN A ms.length k ms B T.length T.length T A2 n2 k2 l compat W (hA.below hb) rfl hbig hT c.1.1 rfl hA2 hn2 b (c.len64 hs hh he hl));have HA:=G hA;have HZ:=G hz;have ai:=SV ms.length hbig;have OS:=G (λT i(h:gL ms compat T)(hi:i<ms.length)=>(show gL ms compat ((cP (toM ms) (aD ms compat) (aX ms compat)) T i)from⟨h.1.step hs hh hi,h.2.step i⟩));have O0:=G (gL.start ms compat);have OL:=G (λT(h:gL ms compat T)=>h.1.1);have ae:=G (λT i=>show(cP (toM ms) (aD ms compat) (aX ms compat)) T i=if aX ms compat i=true then T else T.set i (eF (aD ms compat) T (toM ms i))from rfl);have ad:=G (λT0 i=>show(List.range (i+1)).foldl (cP (toM ms) (aD ms compat) (aX ms compat)) T0=(cP (toM ms) (aD ms compat) (aX ms compat)) ((List.range i).foldl (cP (toM ms) (aD ms compat) (aX ms compat)) T0) i from by rw[List.range_succ,List.foldl_append];rfl);have HN:=G (λr=>show kD (toM ms) (aD ms compat) (aX ms compat) ms.length (r+1)=(List.range ms.length).foldl (cP (toM ms) (aD ms compat) (aX ms compat)) (kD (toM ms) (aD ms compat) (aX ms compat) ms.length r)from rfl);have HE:=U (jK ms compat=kD (toM ms) (aD ms compat) (aX ms compat) ms.length ms.length) rfl;have H0:=U (kD (toM ms) (aD ms compat) (aX ms compat) ms.length 0=List.replicate ms.length []) rfl;clear hA hz hs hh he hl;generalize kD (toM ms) (aD ms compat) (aX ms compat) ms.length=RN at *;generalize jK ms compat=RE at *;generalize hRL:eF (aD ms compat)=RL at *;have BN:=G (eU.new w ms.length);go_enter func156,ntmps156;go_wp2_with fail;have Y:By w (w.alloc (.cells (eE ms.length (Value.slice N 0 0)).toArray 33)):=ba _ _;obtain⟨W0,R⟩:=exQ ((w.alloc (.cells (eE ms.length (Value.slice N 0 0)).toArray 33)));rw[R]at Y BN|-;clear R ai;go_loopw [6] (λu wr=>∃r:Nat,r<=ms.length/\u=I J r/\eU wr w.heap.size (RN r)/\gL ms compat (RN r)/\By w wr) (λu _=>ms.length-(intOf u).toNat)
 case atStart=>exact⟨0,Nat.zero_le _,rfl,by rw[H0.o];exact BN.o,by rw[H0.o];exact O0.o,Y⟩
 obtain⟨r,hr,rfl,S,c,hb⟩:=hrel;have q:=G S;have f:=G c;clear S BN Y c H0 O0;by_cases hlt:r<ms.length
 ·have M:=G (HN.o r)
  generalize hR1:RN (r+1)=R1 at *;generalize hR0:RN r=T0 at *;have P:=G hR1;clear hR1 hR0;go_wp2;go_loopw [7] (λu wr=>∃(i:Nat)(T:List (Li)),i<=ms.length/\u=I J i/\T=(List.range i).foldl (cP (toM ms) (aD ms compat) (aX ms compat)) T0/\eU wr w.heap.size T/\gL ms compat T/\By w wr) (λu _=>ms.length-(intOf u).toNat)
  case atStart=>exact⟨0,T0,Nat.zero_le _,rfl,rfl,q.o,f.o,hb⟩
  clear q hb f;obtain⟨i,T,hi,rfl,Q,S,c,hb⟩:=hrel;have q:=G S;have f:=G c;have F:=G Q;have ah:=OL.o T c;clear S c Q;by_cases hlti:i<ms.length
  ·obtain⟨b1,o1,rfl,a1,o⟩:=(HA.o.below hb).at hlti
   obtain⟨C,cc,c0,c1,c2,a2,hC⟩:=o i hlti;have aj:=HZ.o i hlti;have D:=U ((cP (toM ms) (aD ms compat) (aX ms compat)) T i=(List.range (i+1)).foldl (cP (toM ms) (aD ms compat) (aX ms compat)) T0) (by rw[ad.o,F.o]);have m:=G (OS.o T i f.o hlti);have s:=G (ae.o T i);have V:aX ms compat i=(!compat&&decide (¬ms[i].tag.size=0)):=by simp[aX,List.getD,hlti]
   have X:=kY hlti;rw[V,X]at s;generalize hT1:(cP (toM ms) (aD ms compat) (aX ms compat)) T i=T1 at *;clear o V X hT1;generalize ms[i].frm=mf at *;generalize ms[i].toq=mt at *;generalize ms[i].tag=mg at *;have a:=G (λ(h:compat=false) (hg:¬mg.size=0)=>show T1=T from by rw[s.o,if_pos (by simp[h];intro e;exact hg (by rw[e];rfl))]);have g:=G (λ(h:compat=true\/mg.size=0)=>show T1=T.set i (RL T mt)from by rw[s.o,if_neg (by rcases h with h|h<;>simp[h])]);have t:=G (RC.o (Z ⟨w.heap.size,0,N⟩) T C mt.length cc mt wr hb q.o.rows f.o hC rfl aj);rw[ah]at t;generalize hRM:RL T mt=rm at *;clear hRM s hC
   have x:=G (λ(W:Wv) E (d:Nat) (hbw:By wr W) (hd:rm.length<=d) (v:aA W E rm) (hset:T1=T.set i rm)=>show eU (W.setCell ⟨w.heap.size,i,N⟩ (H E rm.length d)) w.heap.size T1 from by
    rw[hset];exact(q.o.below hbw).set hd v)
   by_cases hg:mg.size=0
   ·have g0:mg.toList=[]:=iH hg
    have j:=g.o (.inr hg);have z:=G j;clear j g a;have dC:(compat||true)=true:=L
    cases compat<;>(
     go_wp2_with fail
     refine t.o.mono ?_
     rintro e W2 ⟨E,d,rfl,hd,v,b⟩
     have y:=G (x.o W2 E d b hd v z.o)
     obtain⟨⟨v9,e9⟩,f9⟩:=(q.o.below b).cell (i:=i) O
     have K:=(tb hb b).setCell (p:=⟨w.heap.size,i,N⟩) (Nat.le_refl _) (H E rm.length d)
     have a3:i<ms.length:=hlti
     clear c0 c1 c2 v
     go_wp2
     go_roundw
     case rel=>exact⟨i+1,T1,O,oN_,D.o,y.o,m.o,K⟩
     case measure=>exact oI_)
   have g0:¬mg.toList=[]:=iG hg;have g1:mg.toList.isEmpty=false:=by simpa using g0
   cases compat with
   |true=>
    have j:=g.o (.inl rfl);have z:=G j;clear j g a;go_wp2_with fail;refine t.o.mono ?_
    rintro e W2 ⟨E,d,rfl,hd,v,b⟩;have y:=G (x.o W2 E d b hd v z.o);obtain⟨⟨v9,e9⟩,f9⟩:=(q.o.below b).cell (i:=i) O;have K:=(tb hb b).setCell (p:=⟨w.heap.size,i,N⟩) (Nat.le_refl _) (H E rm.length d);clear c0 c1 c2 v;go_wp2;go_roundw
    case rel=>exact⟨i+1,T1,O,oN_,D.o,y.o,m.o,K⟩
    exact oI_
   |false=>
    have j:=a.o rfl hg;have af:=U (eU wr w.heap.size T1) (by rw[j];exact q.o);clear j g a t x;go_wp2;go_roundw
    case rel=>exact⟨i+1,T1,O,oN_,D.o,af.o,m.o,hb⟩
    exact oI_
  obtain rfl:i=ms.length:=O;go_wp2;go_roundw
  case rel=>exact⟨r+1,O,oN_,by rw[P.o,M.o,<-F.o];exact q.o,by rw[P.o,M.o,<-F.o];exact f.o,hb⟩
  exact oI_
 obtain rfl:r=ms.length:=O;have v:=HE.o;have hl:=OL.o _ f.o;generalize RN ms.length=RR at *;subst v;go_wp2;go_ret;exact⟨f.o,Z ⟨w.heap.size,0,N⟩,ms.length,by rw[hl];rfl,q.o.rows,hb⟩
end
section
open Go.RowKit
theorem YS(p q:Li)(x y:Int):((p++y::x::q).set (p.length+1) y).set p.length x=p++x::y::q:=by
 rw[List.set_append_right _ _ O,List.set_append_right _ _ O];simp
theorem uB{w:Wv}{base n c:Nat}{e:TypeId}{A:Oa}{d:Li}(h:w.ownsRow base e 1 (H A n c) n (d.map (Value.int .i64)))(hn:0<n):
  ∃g,A=Z ⟨g,0,N⟩/\base<=g/\d.length=n/\(∀i x,d[i]?=Z x->w.cell? ⟨g,i,N⟩=Z (I J x))/\(∀i,w.frozen? ⟨g,i,N⟩=false):=by
 have hl:d.length=n:=by have:=h.1;simpa using this
 rcases h.2 with⟨hv,rfl⟩|⟨g,a,b,hv,hb,_⟩
 ·omega
 injection hv with hA _ hc;subst hA;subst hc;refine⟨g,rfl,hb,hl,λi x hx=>?_,λi=>h.frozenAt i⟩;have hi:i<d.length:=(List.getElem?_eq_some_iff.1 hx).1;rw[h.cellAt i O,List.getElem?_map,hx];rfl
theorem WK(A':Oa)(ns ks:Nat)(ss:List Spn)(A:Oa)(nt kt:Nat)(text:Li)(w:Wv)(hS:bG w A' ss)(hT:aA w A text)
  (hnt:text.length=nt) (hns:ss.length=ns) (hb1:nt<=1048576) (hb2:ns<=1099511627776) :
  Calls prog 109 #[H A' ns ks,H A nt kt] w (fR (Can.srt (clz ss) text) w):=by
 have CC:=G (λW hb c=>pW A' ns ks ss c W (bG.below (w:=w) (w':=W) hS hb) hns hb2);have aj:=G (λx=>(wV ss x).1);have HT:=G hT;clear hS hT hns;subst hnt;generalize clz ss=cl at *;go_enter func109,ntmps109;go_wp2
 go_loopw [5,6] (λv u wr=>∃(k c:Nat)(B:Oa),k<=text.length/\u=I J k/\v=H B k c/\wr.ownsRow w.heap.size 3 1 (H B k c) k ((Can.srt cl (text.take k)).map (Value.int .i64))/\By w wr)
  (λ_ u _=>text.length-(intOf u).toNat)
 case atStart=>exact⟨0,0,N,Nat.zero_le _,rfl,rfl,World.ownsRow_nil _ _ _ _,Below.refl _ _⟩
 obtain⟨k,c,B,hk,rfl,rfl,t,d⟩:=hrel;by_cases hlt:k<text.length
 ·obtain⟨b,o,rfl,M⟩:=HT.o.at hlt
  have c0:=M k hlt;have ag:b<w.heap.size:=World.block_lt_of_cell? w _ c0;have c1:wr.cell? ⟨b,o+k,N⟩=Z (I J text[k]):=(d.cell (p:=⟨b,o+k,N⟩) ag).trans c0;clear M;have HX:=G (List.take_succ_eq_append_getElem hlt);have T:(Can.srt cl (text.take k)).length=k:=by rw[Can.srt_len,List.length_take];omega
  generalize text[k]=x at *;have ai:=G c0;have ak:=G T;clear c0 T;go_wp2_with(at_builtin;refine a_ _ _ 33 3 (I J 0) 1 8 rfl rfl underlying33 cU rfl V V rfl (t.alloc _) rfl (bI wr [I J x] 3 rfl) L (cJ [x]) O (by have:=d.size;simp;omega) ?_;intro B1 l w1 P bf hb1 _ _;have c2:w1.cell? ⟨b,o+k,N⟩=Z (I J x):=(((d.alloc d.size _).trans hb1).cell (p:=⟨b,o+k,N⟩) ag).trans ai.o);have ae:By w w1:=(d.alloc d.size _).trans hb1;have s:w1.ownsRow w.heap.size 3 1 (H B1 (k+1) l) (k+1) ((Can.srt cl (text.take k)++x::[]).map (Value.int .i64)):=by
   rw[List.map_append];exact P
  obtain⟨g,rfl,hg,_,_,_⟩:=uB s O;have S:=G s;have be:¬b=g:=O;clear t P s hb1 c1 d c2;refine(CC.o _ ae x).mono ?_;rintro e w2 ⟨rfl,K⟩;have ao:=tb ae K;have D:=G (aG S.o K);clear S K ae;have HZ:=G (rfl:cl x=cl x);have bi:=aj.o x;generalize hzz:cl x=z at *;have ad:=G hzz;clear hzz HZ;go_wp2_with fail;obtain⟨wo,rfl⟩:∃wo:Wv,wo=w2:=⟨_,rfl⟩;go_loopw [8] (λu wr=>∃(p q:Li),u=I J (p.length:Int)/\Can.srt cl (text.take k)=p++q/\(q=[]\/0<z)/\(∀y∈q,z<cl y)/\wr.ownsRow w.heap.size 3 1 (H (Z ⟨g,0,N⟩) (k+1) l) (k+1) ((p++x::q).map (Value.int .i64))/\By w wr) (λu _=>(intOf u).toNat)
  case atStart=>exact⟨Can.srt cl (text.take k),[],by rw[ak.o],L,.inl rfl,(λy hy=>by cases hy),D.o,ao⟩
  obtain⟨p,q,rfl,aq,hq,ar,Q,E⟩:=hrel;have al:=G aq;have HQ:=G hq;have am:=G ar;have f:=G Q;clear aq hq ar Q D ao
  have X:=G (λ(hp:z=0\/∀u,p.getLast?=Z u->cl u<=z) (W:Wv) (hW:W.ownsRow w.heap.size 3 1 (H (Z ⟨g,0,N⟩) (k+1) l) (k+1) ((p++x::q).map (Value.int .i64)))=>
   show W.ownsRow w.heap.size 3 1 (H (Z ⟨g,0,N⟩) (k+1) l) (k+1) ((Can.srt cl (text.take (k+1))).map (Value.int .i64)) by
    rw[HX.o,<-Can.srt_snoc aj.o al.o (by rw[ad.o];exact HQ.o) (by rw[ad.o];exact am.o) (by rw[ad.o];exact hp)];exact hW)
  rcases List.eq_nil_or_concat p with hp|⟨C,y,hp⟩
  ·subst hp
   have h0:decide ((0:Int)<((([]:Li).length:Nat):Int))=false:=L;go_wp2;go_roundw
   case rel=>exact⟨k+1,l,Z ⟨g,0,N⟩,O,oN_,rfl,X.o (.inr (λu hu=>by cases hu)) _ f.o,E⟩
   exact oI_
  subst hp;have ap:((C.concat y).length:Int)=(C.length:Int)+1:=L;rw[ap];clear ap;obtain⟨_,i,_,R,a,r⟩:=uB f.o O;injection i with i;injection i with i;subst i;have bg:C.length+1<k+1:=by rw[<-R];simp
  have cy:=a C.length y L;have cx:=a (C.length+1) x L;have fy:=r C.length;have fx:=r (C.length+1);have an:=G (YS C q x y);have ax:=G (show(C.concat y).getLast?=Z y by simp);generalize hm:C.length=m at *;have HM:=G hm;clear a r R hm;by_cases hz:0<z
  ·go_wp2_with fail
   refine(CC.o _ E y).mono ?_;rintro e w3 ⟨rfl,af⟩;have F:=tb E af;have j:=G (aG f.o af);obtain⟨_,i,_,R,a,r⟩:=uB j.o O;injection i with i;injection i with i;subst i;have ba:=a m y (by simp[<-HM.o]);have a9:=a (m+1) x (by simp[<-HM.o]);have bd:=r m;have bc:=r (m+1);have ct:w3.cell? ⟨b,o+k,N⟩=Z (I J x):=(F.cell (p:=⟨b,o+k,N⟩) ag).trans ai.o;clear a r R cy cx fy fx af E f;by_cases hc:z<cl y
   ·have HC:=G hc
    have hd:decide (z<cl y)=true:=by simpa using hc
    clear hc;have ab:=G (rfl:cl y=cl y);generalize hcy:cl y=zy at *;have Y:=G hcy;clear hcy ab;have ah:=j.o.stored (m+1) (I J y);have au:=ah.1.stored m (I J x);have aa:=G (And.intro ah au);clear ah au;have bh:¬m=m+1:=O;go_wp2;go_roundw
    case rel=>
     refine⟨C,y::q,by rw[HM.o],by rw[al.o];simp,.inr hz,λu hu=>?_,?_,?_⟩
     ·rcases List.mem_cons.1 hu with rfl|hu
      ·rw[Y.o];exact HC.o
      exact am.o u hu
     ·have h:=aa.o.2.1
      have e1:(((C.concat y++x::q).map (Value.int .i64)).set (m+1) (I J y)).set m (I J x)=(C++x::y::q).map (Value.int .i64):=by
       rw[<-List.map_set,<-List.map_set,<-an.o];simp
      rw[e1]at h;exact h
     exact lA (lA F aa.o.1.2 hg F.size) aa.o.2.2 hg (by have:=F.size;simpa using this)
    simp[intOf]
   have HC:=G hc;have hd:decide (z<cl y)=false:=by simpa using hc
   clear hc;have ab:=G (rfl:cl y=cl y);generalize hcy:cl y=zy at *;have Y:=G hcy;clear hcy ab;go_wp2;go_roundw
   case rel=>exact⟨k+1,l,Z ⟨g,0,N⟩,O,oN_,rfl,X.o (.inr (λu hu=>by rw[ax.o]at hu;injection hu with hu;subst hu;rw[Y.o];have:=HC.o;omega)) _ j.o,F⟩
   exact oI_
  go_wp2;go_roundw
  case rel=>exact⟨k+1,l,Z ⟨g,0,N⟩,O,oN_,rfl,X.o (.inl O) _ f.o,E⟩
  exact oI_
 go_wp2;go_ret;have e1:text.take k=text:=List.take_of_length_le O;have e2:k=text.length:=O;rw[e1]at t;subst e2;exact⟨B,c,congrArg (λn=>Ending.returned (H B n c)) (Can.srt_len text).symm,by rw[Can.srt_len];exact t,d⟩
theorem fR.hg{zs:Li}{w w':Wv}{e:Ending}(h:fR zs w e w'):kI zs w e w':=by
 obtain⟨A,c,he,ho,hb⟩:=h;refine⟨A,c,he,?_,Sl.of_own ho,hb⟩;obtain⟨_,_,hv,hc⟩:=iC ho;injection hv with _ _ hv;subst hv;exact hc
theorem UN{w:Wv}{base b:Nat}{e:TypeId}{size n:Nat}{v:Value}{xs:Lv}(h:w.ownsRow base e size v n xs)(hb:b<=base):w.ownsRow b e size v n xs:=by
 refine⟨h.1,?_⟩;rcases h.2 with hn|⟨g,a,c,hv,d,r⟩
 ·exact .inl hn
 exact .inr ⟨g,a,c,hv,Nat.le_trans hb d,r⟩
end
section
open Go.RowKit Go.Maps Go.WideMaps
def flM(x:Nrm)(compat:Bool)(t:Li):Li:=t.flatMap (dcM x.dec compat)
theorem sN{x:Nrm}(h:NOk x)(compat:Bool)(t:Li):(flM x compat t).length<=64*t.length:=by
 unfold flM;induction t with
 |nil=>simp
 |cons c t ih=>have:=xF h.st h.hg h.en h.lo compat c;rw[List.flatMap_cons,List.length_append,List.length_cons];omega
theorem OU(A0:Oa)(n0 k0:Nat)(A1:Oa)(n1 k1:Nat)(A2:Oa)(n2 k2:Nat)(x:Nrm)(A:Oa)(n k:Nat)(t:Li)(compat:Bool)(w:Wv)(hN:cB w A0 n0 A1 n1 A2 n2 x)(hz:cZ x)(ho:NOk x)(hA:aA w A t)(hn:t.length=n)(hbig:n<=1048576):
  Calls prog 110 #[.agg #[H A0 n0 k0,H A1 n1 k1,H A2 n2 k2],H A n k,.bool compat] w (kI (flM x compat t) w):=by
 obtain⟨X,z,V,rfl,rfl,rfl⟩:=hN;subst hn;have p:x.dec.length<=1048576:=hz.z1.n;have h:By w (w.alloc (.cells #[H A0 x.cls.length k0,H A1 x.dec.length k1,H A2 x.exc.length k2] 28)):=ba _ _;have r:Box (w.alloc (.cells #[H A0 x.cls.length k0,H A1 x.dec.length k1,H A2 x.exc.length k2] 28)) w.heap.size 28 [H A0 x.cls.length k0,H A1 x.dec.length k1,H A2 x.exc.length k2]:=Box.new w _ [H A0 x.cls.length k0,H A1 x.dec.length k1,H A2 x.exc.length k2] rfl;have y:∃g,(w.alloc (.cells #[H A0 x.cls.length k0,H A1 x.dec.length k1,H A2 x.exc.length k2] 28))=g:=⟨_,rfl⟩;have M:=G (λW(hb:By w W)=>zAh A1 x.dec.length k1 x.dec compat W (z.below hb) rfl p (λi hi=>(hz.z1.e i hi).1) ho.st ho.hg ho.en ho.lo);have F:=G (λB c T W(hb:By w W)(b:gL x.dec compat T)(hr:i_ W B T)=>CN A1 x.dec.length k1 x.dec B T.length c T A t.length k t compat W (z.below hb) rfl p hr b.1.1 rfl (hA.below hb) rfl hbig (b.len64 ho.st ho.hg ho.en ho.lo));have s:=U (flM x compat t=eF (aD x.dec compat) (jK x.dec compat) t) rfl;clear X z V hz ho hA;generalize flM x compat t=fl at *;go_enter func110,ntmps110;go_wp2_with fail;obtain⟨g,j⟩:=y;try rw[j]at h r|-
 clear j;have Q:=r.c 1 rfl;have q:=G (λW'(hb':By g W')=>show W'.cell? ⟨w.heap.size,1,N⟩=Z (H A1 x.dec.length k1)/\By g W' from⟨(hb'.cell r.lt).trans Q,hb'⟩);have L:=G (λW(hb':By g W)=>(M.o W (tb h hb')).mono (R':=λe W'=>∃v,e=.returned v/\(W'.cell? ⟨w.heap.size,1,N⟩=Z (H A1 x.dec.length k1)/\By g W')/\(∃B c,v=H B (jK x.dec compat).length c/\gL x.dec compat (jK x.dec compat)/\i_ W' B (jK x.dec compat)/\By W W')) (λe W'⟨b,B,c,he,g1,g2⟩=>⟨_,he,q.o W' (tb hb' g2),B,c,rfl,b,g1,g2⟩));have K:=G (λB c T W(hb':By g W)b hr=>F.o B c T W (tb h hb') b hr);clear Q M F r;generalize jK x.dec compat=T at *;go_wp2_with fail;refine wp_region_held_drew (S:=λW'=>W'.cell? ⟨w.heap.size,1,N⟩=Z (H A1 x.dec.length k1)/\By g W') oK_ (q.o _ ((Below.refl _ _).drew)) (λa=>?_);refine tK 0 7 ?_;refine tK 1 8 ?_;refine tK 2 9 ?_;refine tK 3 10 ?_;refine tK 4 11 ?_;refine tK 6 13 ?_;refine tK 7 14 ?_;refine qE 5 12 (L.o _ a.2) ?_;clear a;rintro _ O a ⟨B,c,rfl,b,f,m⟩;have l:=a.2;have D:=G ((K.o B c _ O l b f).mono (R':=λe W'=>∃v,e=.returned v/\(W'.cell? ⟨w.heap.size,1,N⟩=Z (H A1 x.dec.length k1)/\By g W')/\(∃E d,v=H E (eF (aD x.dec compat) T t).length d/\(eF (aD x.dec compat) T t).length<=d/\aA W' E (eF (aD x.dec compat) T t)/\By O W')) (λe W'⟨E,d,he,g1,g2,g3⟩=>⟨_,he,q.o W' (tb l g3),E,d,rfl,g1,g2,g3⟩));refine qE 8 15 (D.o) ?_;clear a;rintro _ Y a ⟨E,d,rfl,hd,P,o⟩;refine tK 9 6 ?_;refine wpAnyH_done oK_ ?_ _;have C:=h.trans (a.2.mono h.size);have R:=G P;obtain rfl:=s.o;clear a q L K D P f m o;go_wp2;go_ret;exact⟨E,d,rfl,hd,R.o,C⟩
theorem BQ(A0:Oa)(n0 k0:Nat)(A1:Oa)(n1 k1:Nat)(A2:Oa)(n2 k2:Nat)(x:Nrm)(A:Oa)(n k:Nat)(t:Li)(compat:Bool)(w:Wv)(hN:cB w A0 n0 A1 n1 A2 n2 x)(hz:cZ x)(hA:aA w A t)(hn:t.length=n)(hbig:n<=16384):
  Calls prog 45 #[.agg #[H A0 n0 k0,H A1 n1 k1,H A2 n2 k2],H A n k,.bool compat] w (fR (Can.srt (clz (usN x).cls) (flM (usN x) compat t)) w):=by
 subst hn;have Y:By w (w.alloc (.cells #[H A0 n0 k0,H A1 n1 k1,H A2 n2 k2] 28)):=ba _ _;have hX:Box (w.alloc (.cells #[H A0 n0 k0,H A1 n1 k1,H A2 n2 k2] 28)) w.heap.size 28 [H A0 n0 k0,H A1 n1 k1,H A2 n2 k2]:=Box.new w _ [H A0 n0 k0,H A1 n1 k1,H A2 n2 k2] rfl;have T:=G (BR A0 n0 k0 A1 n1 k1 A2 n2 k2 x _ (hN.below Y) hz);obtain⟨f,g,h,j,i,o,hv,F⟩:=uW hN k0 k1 k2;rw[hv]at T;have z:=G F;clear hv F;have HB:=G Y;have HX:=G hX;have r:=hz.us;have q:=oK x;have HA:=G hA;clear hN hz Y hX hA;generalize usN x=y at *;have FC:=G (λW(hb:By w W)=>OU f _ g h _ j i _ o y A t.length k t compat W (z.o W hb) r q (HA.o.below hb) rfl O);have a0:=sN q compat t;have SC:=G (λD l m d W(hb:By w W)(hD:aA W D l)(hm:l.length=m)(hm2:m<=1048576)=>WK f y.cls.length g y.cls D m d l W (z.o W hb).s0 hD hm rfl hm2 (by have:=r.z0;omega));clear r q;generalize flM y compat t=fl at *;go_enter func45,ntmps45;obtain⟨g0,B,X⟩:=HX.o.k3;go_wp2_with fail;refine T.o.mono ?_
 rintro e b ⟨rfl,L⟩;have hb:=tb HB.o L;clear g0 B X T HB HX L;have c:=hb.alloc hb.size (.cells #[H f y.cls.length g,H h y.dec.length j,H i y.exc.length o] 28);have s:Box (b.alloc (.cells #[H f y.cls.length g,H h y.dec.length j,H i y.exc.length o] 28)) b.heap.size 28 [H f y.cls.length g,H h y.dec.length j,H i y.exc.length o]:=Box.new b _ [H f y.cls.length g,H h y.dec.length j,H i y.exc.length o] rfl;have V:∃p,(b.alloc (.cells #[H f y.cls.length g,H h y.dec.length j,H i y.exc.length o] 28))=p:=⟨_,rfl⟩;go_wp2_with fail;obtain⟨p,K⟩:=V;try rw[K]at c s|-
 clear K hb;obtain⟨p0,p1,p2⟩:=s.k3;have R:=G (λW'(hb':By p W')=>show W'.cell? ⟨b.heap.size,0,N⟩=Z (H f y.cls.length g)/\W'.cell? ⟨b.heap.size,1,N⟩=Z (H h y.dec.length j)/\W'.cell? ⟨b.heap.size,2,N⟩=Z (H i y.exc.length o)/\By p W' from⟨(hb'.cell s.lt).trans p0,(hb'.cell s.lt).trans p1,(hb'.cell s.lt).trans p2,hb'⟩);have FB:=G (λW(hb':By p W)=>(FC.o W (tb c hb')).mono (R':=λe W'=>∃v,e=.returned v/\(W'.cell? ⟨b.heap.size,0,N⟩=Z (H f y.cls.length g)/\W'.cell? ⟨b.heap.size,1,N⟩=Z (H h y.dec.length j)/\W'.cell? ⟨b.heap.size,2,N⟩=Z (H i y.exc.length o)/\By p W')/\(∃E d,v=H E fl.length d/\fl.length<=d/\aA W' E fl/\By W W')) (λe W'⟨E,d,he,B,X,g3⟩=>⟨_,he,R.o W' (tb hb' g3),E,d,rfl,B,X,g3⟩));have SB:=G (λD d W(hb':By p W)(hD:aA W D fl)=>(SC.o D fl fl.length d W (tb c hb') hD rfl O).mono (R':=λe W'=>∃v,e=.returned v/\(W'.cell? ⟨b.heap.size,0,N⟩=Z (H f y.cls.length g)/\W'.cell? ⟨b.heap.size,1,N⟩=Z (H h y.dec.length j)/\W'.cell? ⟨b.heap.size,2,N⟩=Z (H i y.exc.length o)/\By p W')/\(∃E d,v=H E (Can.srt (clz y.cls) fl).length d/\W'.ownsRow W.heap.size 3 1 (H E (Can.srt (clz y.cls) fl).length d) (Can.srt (clz y.cls) fl).length ((Can.srt (clz y.cls) fl).map (Value.int .i64))/\W.heap.size<=W'.heap.size/\By W W')) (λe W'⟨E,d,he,B,g3⟩=>⟨_,he,R.o W' (tb hb' g3),E,d,rfl,B,g3.size,g3⟩));clear p0 p1 p2 FC SC s;generalize Can.srt (clz y.cls) fl=sr at *;go_wp2_with fail;refine wp_region_held_drew (S:=λW'=>W'.cell? ⟨b.heap.size,0,N⟩=Z (H f y.cls.length g)/\W'.cell? ⟨b.heap.size,1,N⟩=Z (H h y.dec.length j)/\W'.cell? ⟨b.heap.size,2,N⟩=Z (H i y.exc.length o)/\By p W') oK_ (R.o _ ((Below.refl _ _).drew)) (λa=>?_);refine tK 0 10 ?_;refine tK 1 11 ?_;refine tK 2 12 ?_;refine tK 3 13 ?_;refine tK 4 14 ?_;refine qE 5 15 (FB.o _ a.2.2.2) ?_;clear a;rintro _ W2 a ⟨E1,d1,rfl,az,C,M⟩;have ab:=a.2.2.2;refine qE 6 16 (SB.o E1 d1 _ a.2.2.2 C) ?_;clear a;rintro _ W3 a ⟨E2,d2,rfl,Q,aa,P⟩;refine tK 7 6 ?_;refine wpAnyH_done oK_ ?_ _;have ad:=c.trans (a.2.2.2.mono c.size);have ae:w.heap.size<=W2.heap.size:=by have h1:=c.size;have h2:=ab.size;omega
 have HE:=G (UN Q ae);clear a R FB SB C Q aa M P;go_wp2;go_ret;exact⟨E2,d2,rfl,HE.o,ad⟩
theorem VU(A0:Oa)(n0 k0:Nat)(A1:Oa)(n1 k1:Nat)(A2:Oa)(n2 k2:Nat)(x:Nrm)(A:Oa)(n k:Nat)(t:Li)(compat:Bool)(w:Wv)(hN:cB w A0 n0 A1 n1 A2 n2 x)(hz:cZ x)(hA:aA w A t)(hn:t.length=n)(hbig:n<=16384):
  Calls prog 45 #[.agg #[H A0 n0 k0,H A1 n1 k1,H A2 n2 k2],H A n k,.bool compat] w (kI (Can.srt (clz (usN x).cls) (flM (usN x) compat t)) w):=(BQ A0 n0 k0 A1 n1 k1 A2 n2 k2 x A n k t compat w hN hz hA hn hbig).mono λ_ _ h=>h.hg
theorem AB{ms:List Mp}(hc:gG ms){compat:Bool}{c:Int}{toq:Li}(h:onM ms compat c=Z toq):∀e∈toq,iok e:=by
 intro e he;unfold onM at h;split at h
 ·next h4=>
  injection h with h;subst h;exact tG ((lE h4).2 e he).1
 cases hf:aD ms compat c with
 |none=>rw[hf]at h;cases h
 |some m=>
  rw[hf]at h;obtain⟨hm,_⟩:=gS hf;simp only[Option.map_some,Option.some.injEq]at h;rw[kY hm]at h;subst h;exact tG ((hc m hm).2.2 e he)
theorem OV{ms:List Mp}(hc:gG ms){compat:Bool}{c:Int}{l:Li}(h:b_ (onM ms compat) c l):iok c->∀e∈l,iok e:=by
 induction h with
 |leaf h=>intro a e he;simp at he;subst he;exact a
 | @node c toq vs a h2 _ ih=>
  intro _ e he;obtain⟨v,hv,he⟩:=List.mem_flatten.1 he;obtain⟨i,hi,rfl⟩:=List.getElem_of_mem hv;exact ih i O hi (AB hc a _ (List.getElem_mem O)) e he
theorem OE{x:Nrm}(h:NOk x)(compat:Bool){t:Li}(ht:∀c∈t,iok c):(∀c∈Can.srt (clz x.cls) (flM x compat t),iok c/\dcM x.dec compat c=[c])/\Can.Ok (clz x.cls) (Can.srt (clz x.cls) (flM x compat t)):=by
 refine⟨λc hc=>?_,Can.srt_ok _⟩;have hm:=(Can.srt_perm (flM x compat t)).mem_iff.1 hc;unfold flM at hm;obtain⟨e,he,a⟩:=List.mem_flatMap.1 hm;exact⟨OV h.co (nS h.st h.hg h.en compat e) (ht e he) c a,NA h.st h.hg h.en compat a⟩
def mkF(f:Int->Option Value):Int->Option Int:=λc=>(f c).map (λ_=>0)
theorem SN{f:Int->Option Value}{c:Int}:mkF f c=N ↔ f c=N:=by unfold mkF;cases f c<;>simp
theorem SQ(f:Int->Option Value)(c:Int)(v:Value):mkF (λy=>if y=c then Z v else f y)=dR (mkF f) c 0:=by
 funext x;unfold mkF dR;by_cases e:x=c
 ·simp[e]
 simp[e]
theorem yN{a w w':Wv}{r:Option Nat}{B:Nat}(h:a.grownBy w r)(g:Below B w w')(hB:a.heap.size<=B):a.grownBy w' r:=
 ⟨g.os.trans h.os,g.tape.trans h.tape,g.output.trans h.output,Nat.le_trans h.size g.size,λk hk hne=>(g.block k (Nat.lt_of_lt_of_le hk hB)).trans (h.block k hk hne)⟩
theorem Sl.grownM{W W':Wv}{U:Nat}{A:Oa}{cs:Lv}(h:Sl W A cs)(hg:W.grownBy W' (Z U))(hU:∀o,W.cell? ⟨U,o,N⟩=N):Sl W' A cs:=by
 intro c;obtain⟨b,o,rfl,hc⟩:=h c;refine⟨b,o,rfl,λj u hu=>?_⟩;have a:=hc j u hu;have hq:b≠U:=λe=>by rw[e,hU]at a;cases a
 exact(World.cell?_of_block (hg.block b (World.block_lt_of_cell? W _ a) (λe=>hq (by injection e)))).trans a
theorem b_.noway{on:Int->Option (Li)}{c:Int}{l:Li}(h:b_ on c l):¬cK on c c:=by
 have g:∀{c l},b_ on c l->∀d,cK on c d->¬cK on d c:=by
  intro c l h;induction h with
  |leaf h=>
   intro d p _;rcases p.head with⟨f,b,_⟩|⟨x,⟨f,b,_⟩,_⟩
   ·rw[h]at b;cases b
   rw[h]at b;cases b
  | @node c f vs b h2 h3 ih=>
   have a:∀x,kG on c x->∀y,cK on x y->¬cK on y x:=λx⟨to',g1,g2⟩ y=>by
    rw[b]at g1;injection g1 with g1;subst g1;obtain⟨i,hi,rfl⟩:=List.getElem_of_mem g2;exact ih i hi O y
   intro d p q;rcases p.head with e|⟨x,e,n⟩
   ·have k:cK on d d:=by
     rcases q.head with j|⟨y,j,m⟩
     ·exact .more (.one j) e
     exact .more q e
    exact a d e d k k
   have m:cK on d x:=.more q e;exact a x e d n m
 intro p;exact g h c p p
def uM(ms:List Mp):Li:=fsM ms++(List.range 11172).map (λi:Nat=>44032+(i:Int))
theorem zAt(ms:List Mp):(uM ms).length=ms.length+11172:=by unfold uM fsM;simp
theorem TV{ms:List Mp}{b:Bool}{c:Int}{toq:Li}(h:onM ms b c=Z toq):c∈uM ms:=by
 unfold uM;rw[List.mem_append];unfold onM at h;split at h
 ·next h4=>
  right;have hr:44032<=c/\c<=55203:=by
   have d:=(Hg.kind_range c).2;by_cases h44:Hg.kind c=4
   ·have:=mZ h44;omega
   have:=m_ (show Hg.kind c=5 by omega);omega
  exact List.mem_map.2 ⟨(c-44032).toNat,List.mem_range.2 O,O⟩
 left;cases hf:aD ms b c with
 |none=>rw[hf]at h;cases h
 |some i=>
  obtain⟨hi,a,_⟩:=gS hf;exact List.mem_map.2 ⟨ms[i],List.getElem_mem hi,a⟩
structure XM(A0:Oa)(n0 k0:Nat)(A1:Oa)(n1 k1:Nat)(A2:Oa)(n2 k2:Nat)(ms:List Mp)(compat:Bool)(s:Nat)(w:Wv)(n:Nat)(f:Int->Option Value):Prop where
 bN:Box w s 28 [H A0 n0 k0,H A1 n1 k1,H A2 n2 k2]
 bB:Box w (s+1) 4 [.bool compat]
 mp:lV w (s+2) n f
 bM:Box w (s+3) 171 [.map (Z (s+2))]
 bX:Box w (s+4) 108 [.func (.func 118) #[] #[.pointer (Z ⟨s+3,0,N⟩),.pointer (Z ⟨s,0,N⟩),.pointer (Z ⟨s+1,0,N⟩),.pointer (Z ⟨s+4,0,N⟩)]]
 fd:∀c v,f c=Z v->∃E d l,v=H E l.length d/\l.length<=d/\b_ (onM ms compat) c l/\aA w E l
section
variable {A0:Oa}{n0 k0:Nat}{A1:Oa}{n1 k1:Nat}{A2:Oa}{n2 k2:Nat}{ms:List Mp}{compat:Bool}{s:Nat}{w w':Wv}{n:Nat}{f:Int->Option Value}
theorem XM.below(h:XM A0 n0 k0 A1 n1 k1 A2 n2 k2 ms compat s w n f)(hb:By w w'):XM A0 n0 k0 A1 n1 k1 A2 n2 k2 ms compat s w' n f:=
 ⟨h.bN.below hb h.bN.lt,h.bB.below hb h.bB.lt,h.mp.below hb,h.bM.below hb h.bM.lt,h.bX.below hb h.bX.lt,λc v e=>by
  obtain⟨E,d,l,a,b,g,i⟩:=h.fd c v e
  exact⟨E,d,l,a,b,g,i.below hb⟩⟩
theorem XM.belowB{B:Nat}(h:XM A0 n0 k0 A1 n1 k1 A2 n2 k2 ms compat s w n f)(hb:Below B w w')(hB:s+4<B)(hfd:∀c v,f c=Z v->∃E d l,v=H E l.length d/\l.length<=d/\b_ (onM ms compat) c l/\aA w' E l):XM A0 n0 k0 A1 n1 k1 A2 n2 k2 ms compat s w' n f:=
 ⟨h.bN.below hb O,h.bB.below hb O,by
  obtain⟨D,⟨es,a,b,e⟩,g⟩:=h.mp
  exact⟨D,⟨es,a,(hb.block _ O).trans b,e⟩,g⟩,h.bM.below hb O,h.bX.below hb O,hfd⟩
theorem XM.put(h:XM A0 n0 k0 A1 n1 k1 A2 n2 k2 ms compat s w n f){m:Nat}{c:Int}{E:Oa}{d:Nat}{l:Li}(hm:lV w' (s+2) m (λy=>if y=c then Z (H E l.length d)else f y))(hg:w.grownBy w' (Z (s+2)))
  (hd:l.length<=d) (hf:b_ (onM ms compat) c l) (hE:aA w E l):XM A0 n0 k0 A1 n1 k1 A2 n2 k2 ms compat s w' m (λy=>if y=c then Z (H E l.length d)else f y):=by
 refine⟨h.bN.grown hg L,h.bB.grown hg L,hm,h.bM.grown hg L,h.bX.grown hg L,λx v e=>?_⟩;by_cases hx:x=c
 ·rw[if_pos hx]at e
  injection e with e;subst hx;exact⟨E,d,l,e.symm,hd,hf,Sl.grownM hE hg h.mp.nocell⟩
 rw[if_neg hx]at e;obtain⟨a,b,o,g,i,j,k⟩:=h.fd x v e;exact⟨a,b,o,g,i,j,Sl.grownM k hg h.mp.nocell⟩
end
structure oU(A0:Oa)(n0 k0:Nat)(A1:Oa)(n1 k1:Nat)(A2:Oa)(n2 k2:Nat)(ms:List Mp)(compat:Bool)(s:Nat)(c:Int)(l:Li)(w:Wv)(n:Nat)(f:Int->Option Value)(E:Oa)(w':Wv)(n':Nat)(f':Int->Option Value):Prop where
 ints:aA w' E l
 st:XM A0 n0 k0 A1 n1 k1 A2 n2 k2 ms compat s w' n' f'
 gr:w.grownBy w' (Z (s+2))
 pot:n'+unmarked (uM ms) (mkF f')<=n+unmarked (uM ms) (mkF f)
 fr:∀x E' m d,f' x=Z (H E' m d)->f x=Z (H E' m d)\/m=0\/∀b o,E'=Z ⟨b,o,N⟩->w.heap.size<=b
 mks:∀x,f' x≠N->f x≠N\/x=c\/cK (onM ms compat) c x
def oV(A0:Oa)(n0 k0:Nat)(A1:Oa)(n1 k1:Nat)(A2:Oa)(n2 k2:Nat)(ms:List Mp)(compat:Bool)(s:Nat)(c:Int)(l:Li)(w:Wv)(n:Nat)(f:Int->Option Value)(e:Ending)(w':Wv):Prop:=
 ∃E d n' f',e=.returned (H E l.length d)/\l.length<=d/\oU A0 n0 k0 A1 n1 k1 A2 n2 k2 ms compat s c l w n f E w' n' f'
def XOk(A0:Oa)(n0 k0:Nat)(A1:Oa)(n1 k1:Nat)(A2:Oa)(n2 k2:Nat)(ms:List Mp)(compat:Bool)(s:Nat)(w0:Wv)(c:Int)(l:Li):Prop:=
 iok c->l.length<=4096->∀(w:Wv)(n:Nat)(f:Int->Option Value),XM A0 n0 k0 A1 n1 k1 A2 n2 k2 ms compat s w n f->Below s w0 w->n+unmarked (uM ms) (mkF f)<=1000000000->
  Calls prog 118 #[I J c,.pointer (Z ⟨s+3,0,N⟩),.pointer (Z ⟨s,0,N⟩),.pointer (Z ⟨s+1,0,N⟩),.pointer (Z ⟨s+4,0,N⟩)] w
   (oV A0 n0 k0 A1 n1 k1 A2 n2 k2 ms compat s c l w n f)
def lS(f:Int->Option Value)(B:Oa):Prop:=∀x E m d b o b' o',f x=Z (H E m d)->E=Z ⟨b,o,N⟩->B=Z ⟨b',o',N⟩->m=0\/b≠b'
section
variable {A0:Oa}{n0 k0:Nat}{A1:Oa}{n1 k1:Nat}{A2:Oa}{n2 k2:Nat}{ms:List Mp}{compat:Bool}{s:Nat}{w w':Wv}{n:Nat}{f:Int->Option Value}
theorem XM.app(h:XM A0 n0 k0 A1 n1 k1 A2 n2 k2 ms compat s w n f){base m k:Nat}{ty:TypeId}{B:Oa}{xs:Lv}(ho:w.ownsRow base ty 1 (H B m k) m xs)(hap:lS f B)(hg:w.grownBy w' (Value.ownBlock (H B m k)))(hb:Below base w w')(hB:s+4<base):XM A0 n0 k0 A1 n1 k1 A2 n2 k2 ms compat s w' n f:=by
 refine h.belowB hb hB λc v e=>?_
 obtain⟨E,d,l,z,A,C,D⟩:=h.fd c v e;refine⟨E,d,l,z,A,C,λhne=>?_⟩;obtain⟨b,o,rfl,hc⟩:=D hne;refine⟨b,o,rfl,λj u hu=>?_⟩;have y:=World.block_lt_of_cell? w _ (hc j u hu);refine(World.cell?_of_block (hg.block b y ?_)).trans (hc j u hu);intro r;cases B with
 |none=>simp[Value.ownBlock]at r
 |some a=>
  obtain⟨g,p,q,hv⟩:∃g p q,(Value.slice (Z a) m k)=H (Z ⟨g,0,N⟩) m p/\w.heap[g]?=Z (.cells q ty (0,0)):=by
   rcases ho.2 with⟨hv,_⟩|⟨g,p,q,hv,_,x,_⟩
   ·cases hv
   exact⟨g,p,q,hv,x⟩
  have i:=hv.1;injection i with i;injection i with i;subst i;simp only[Value.ownBlock,Option.some.injEq]at r;subst z;rcases hap c _ _ _ b o g 0 e rfl rfl with t|t
  ·have:l=[]:=List.eq_nil_of_length_eq_zero t
   subst this;exact hne rfl
  exact t r
theorem XM.apart_new(h:XM A0 n0 k0 A1 n1 k1 A2 n2 k2 ms compat s w n f):lS f (Z ⟨w.heap.size,0,N⟩):=by
 intro x E m d b o p A e j c;obtain⟨k,t,l,g,v,z,i⟩:=h.fd x _ e;injection g with g1 g2 g3;subst g1;subst g2;by_cases h0:l=[]
 ·left;rw[h0];rfl
 right;obtain⟨q,B,a,hc⟩:=i (by simpa using h0);rw[j]at a;injection a with a;injection a with i1 i2;subst i1;subst i2;injection c with c;injection c with j1 j2;obtain⟨y,r,rfl⟩:∃y r,l=y::r:=by cases l with|nil=>exact absurd rfl h0|cons y r=>exact⟨y,r,rfl⟩
 have:=World.block_lt_of_cell? w _ (hc 0 _ rfl);simp at this;omega
theorem lS.nil(f:Int->Option Value):lS f N:=by intro _ _ _ _ _ _ _ _ _ _ h;cases h
end
theorem u_(w:Wv):(zeroValue 33).run prog w=.ok (H N 0 0) w:=oK_
theorem lB{a w:Wv}{U B:Nat}(h:a.grownBy w (Z U))(hB:B<=U)(hB2:B<=a.heap.size):Below B a w:=
 ⟨h.os,h.tape,h.output,h.size,λk hk=>h.block k O (λe=>by injection e with e;omega)⟩
theorem OO(vs:List (Li))(i:Nat):(vs.take i).flatten.length<=vs.flatten.length:=by
 conv=>rhs;rw[<-List.take_append_drop i vs,List.flatten_append,List.length_append]
 omega
theorem yG{vs:List (Li)}{i:Nat}(hi:i<vs.length):(vs.take (i+1)).flatten=(vs.take i).flatten++vs[i]:=by
 rw[List.take_succ_eq_append_getElem hi,List.flatten_append,List.flatten_singleton]
structure jQ(A0:Oa)(n0 k0:Nat)(A1:Oa)(n1 k1:Nat)(A2:Oa)(n2 k2:Nat)(ms:List Mp)(compat:Bool)(s:Nat)(Q:Int->Prop)(fl:Li)(w w1:Wv)(n:Nat)(f:Int->Option Value)(B:Oa)(k:Nat)(W:Wv)(n':Nat)(f':Int->Option Value):Prop where
 own:W.ownsRow w1.heap.size 3 1 (H B fl.length k) fl.length (fl.map (Value.int .i64))
 st:XM A0 n0 k0 A1 n1 k1 A2 n2 k2 ms compat s W n' f'
 gr:w1.grownBy W (Z (s+2))
 pot:n'+unmarked (uM ms) (mkF f')<=n+unmarked (uM ms) (mkF f)
 fr:∀x E' m d,f' x=Z (H E' m d)->f x=Z (H E' m d)\/m=0\/∀b o,E'=Z ⟨b,o,N⟩->w.heap.size<=b
 mks:∀x,f' x≠N->f x≠N\/Q x
 ap:lS f' B
section
variable {A0:Oa}{n0 k0:Nat}{A1:Oa}{n1 k1:Nat}{A2:Oa}{n2 k2:Nat}{ms:List Mp}{compat:Bool}{s:Nat}{Q:Int->Prop}{e:Int}{fl l:Li}{w w1:Wv}{n:Nat}{f:Int->Option Value}{B:Oa}{k:Nat}{W:Wv}{n':Nat}{f':Int->Option Value}
theorem jQ.lt(h:jQ A0 n0 k0 A1 n1 k1 A2 n2 k2 ms compat s Q fl w w1 n f B k W n' f'):w1.heap.size<=W.heap.size:=h.gr.size
theorem jQ.call(h:jQ A0 n0 k0 A1 n1 k1 A2 n2 k2 ms compat s Q fl w w1 n f B k W n' f')(hw:w.heap.size<=w1.heap.size)(hs:s+4<w1.heap.size)(he:∀x,x=e\/cK (onM ms compat) e x->Q x){E:Oa}{W2:Wv}{n2':Nat}{f2:Int->Option Value}
  (p:oU A0 n0 k0 A1 n1 k1 A2 n2 k2 ms compat s e l W n' f' E W2 n2' f2):jQ A0 n0 k0 A1 n1 k1 A2 n2 k2 ms compat s Q fl w w1 n f B k W2 n2' f2:=by
 have v:∀g o,B=Z ⟨g,o,N⟩->w1.heap.size<=g/\g<W.heap.size:=by
  intro g o q;subst q;rcases h.own.2 with⟨hv,_⟩|⟨F,r,t,hv,z,A,_⟩
  ·cases hv
  injection hv with hv;injection hv with hv;injection hv with hv;subst hv;exact⟨z,(Array.getElem?_eq_some_iff.1 A).1⟩
 refine⟨h.own.kept p.gr ?_,p.st,bK h.gr p.gr,Nat.le_trans p.pot h.pot,λx i m d j=>?_,λx j=>?_,?_⟩
 ·cases B with
  |none=>exact .inl rfl
  |some a=>
   right;rcases h.own.2 with⟨hv,_⟩|⟨F,r,t,hv,z,A,_⟩
   ·cases hv
   injection hv with hv;rw[hv];simp only[Value.ownBlock];intro c;injection c with c;omega
 ·rcases p.fr x i m d j with c|c|c
  ·exact h.fr x i m d c
  ·exact .inr (.inl c)
  exact .inr (.inr λb o hb=>by have:=c b o hb;have:=h.lt;omega)
 ·rcases p.mks x j with c|c|c
  ·exact h.mks x c
  ·exact .inr (he x (.inl c))
  exact .inr (he x (.inr c))
 intro x i m d b o y D j C q;rcases p.fr x i m d j with c|c|c
 ·exact h.ap x i m d b o y D c C q
 ·exact .inl c
 right;have:=c b o C;have:=v y D q;omega
theorem jQ.app(h:jQ A0 n0 k0 A1 n1 k1 A2 n2 k2 ms compat s Q fl w w1 n f B k W n' f')(hs:s+4<w1.heap.size){B':Oa}{k':Nat}{W':Wv}{zs:Li}
  (ho:W'.ownsRow w1.heap.size 3 1 (H B' (fl.length+zs.length) k') (fl.length+zs.length) (fl.map (Value.int .i64)++zs.map (Value.int .i64))) (hb:Below w1.heap.size W W') (hg:W.grownBy W' (Value.ownBlock (H B fl.length k))) (hB:B'=B\/B'=Z ⟨W.heap.size,0,N⟩) :
  jQ A0 n0 k0 A1 n1 k1 A2 n2 k2 ms compat s Q (fl++zs) w w1 n f B' k' W' n' f':=by
 refine⟨by rw[List.length_append,List.map_append];exact ho,h.st.app h.own h.ap hg hb hs,yN h.gr hb (Nat.le_refl _),h.pot,h.fr,h.mks,?_⟩;rcases hB with rfl|rfl
 ·exact h.ap
 exact h.st.apart_new
end
theorem x_(A0:Oa)(n0 k0:Nat)(A1:Oa)(k1:Nat)(A2:Oa)(n2 k2:Nat)(s:Nat)(ms:List Mp)(compat:Bool)(w0:Wv)(_hs0:s=w0.heap.size)(_hA:Mps w0 A1 ms)(_hst:StF ms)(_hco:gG ms)(_hbig:ms.length<=1048576)(c:Int)(l:Li)(hF:b_ (onM ms compat) c l)(hc:iok c)
  (w:Wv) (n:Nat) (f:Int->Option Value) (hms:XM A0 n0 k0 A1 ms.length k1 A2 n2 k2 ms compat s w n f) (_hbel:Below s w0 w) (_hn:n+unmarked (uM ms) (mkF f)<=1000000000) {v:Value} (hfc:f c=Z v) :
  Calls prog 118 #[I J c,.pointer (Z ⟨s+3,0,N⟩),.pointer (Z ⟨s,0,N⟩),.pointer (Z ⟨s+1,0,N⟩),.pointer (Z ⟨s+4,0,N⟩)] w
   (oV A0 n0 k0 A1 ms.length k1 A2 n2 k2 ms compat s c l w n f):=by
 obtain⟨E,d,j,rfl,i,b,g⟩:=hms.fd c v hfc;obtain rfl:=b.func hF;have qm:w.cell? ⟨s+3,0,N⟩=Z (.map (Z (s+2))):=hms.bM.cell rfl;have a:=G hms;have h:=G g;clear hms _hA _hst _hco b hF g _hs0;go_enter func118,ntmps118;go_wp2_with(at_lookup;refine mL rfl _ _ 171 rfl a.o.mp jV underlying171 (u_ _) rfl rfl hc (jT hc) ?_;rw[hfc];simp only[Option.getD_some,Option.isSome_some]);go_ret;exact⟨E,d,n,f,rfl,i,h.o,a.o,aP w _,Nat.le_refl _,λx E' m d e=>.inl e,λx e=>.inl e⟩
theorem NR(A0:Oa)(n0 k0:Nat)(A1:Oa)(k1:Nat)(A2:Oa)(n2 k2:Nat)(s:Nat)(ms:List Mp)(compat:Bool)(w0:Wv)(hs0:s=w0.heap.size)(hA:Mps w0 A1 ms)(hst:StF ms)(_hco:gG ms)(hbig:ms.length<=1048576)(c:Int)(hR:onM ms compat c=N)(hc:iok c)
  (w:Wv) (n:Nat) (f:Int->Option Value) (hms:XM A0 n0 k0 A1 ms.length k1 A2 n2 k2 ms compat s w n f) (hbel:Below s w0 w) (_hn:n+unmarked (uM ms) (mkF f)<=1000000000) (hfc:f c=N) :
  Calls prog 118 #[I J c,.pointer (Z ⟨s+3,0,N⟩),.pointer (Z ⟨s,0,N⟩),.pointer (Z ⟨s+1,0,N⟩),.pointer (Z ⟨s+4,0,N⟩)] w
   (oV A0 n0 k0 A1 ms.length k1 A2 n2 k2 ms compat s c [c] w n f):=by
 have g:=G (λW(hb:Below s w0 W)=>t_ A0 n0 k0 A1 ms.length k1 A2 n2 k2 ms c compat W (hA.below (show Below w0.heap.size w0 W from hs0 ▸ hb)) rfl hbig hst);have l:w.cell? ⟨s,0,N⟩=Z (H A0 n0 k0):=hms.bN.cell rfl;have o:w.cell? ⟨s,1,N⟩=Z (H A1 ms.length k1):=hms.bN.cell rfl;have p:w.cell? ⟨s,2,N⟩=Z (H A2 n2 k2):=hms.bN.cell rfl;have qb:w.cell? ⟨s+1,0,N⟩=Z (.bool compat):=hms.bB.cell rfl;have qm:w.cell? ⟨s+3,0,N⟩=Z (.map (Z (s+2))):=hms.bM.cell rfl;have i:=G hms;rw[hR]at g;clear hms hA hst _hco hR hs0;go_enter func118,ntmps118;go_wp2_with(at_lookup;refine mL rfl _ _ 171 rfl i.o.mp jV underlying171 (u_ _) rfl rfl hc (jT hc) ?_;rw[hfc];simp only[Option.getD_none,Option.isSome_none]);refine(g.o _ hbel).mono ?_
 rintro e j ⟨E,d,rfl,hd,k,a⟩;simp only[Option.getD_none,Option.isSome_none];have b:=G (i.o.below a);clear g k hd;go_wp2;go_ret;have h:=a.alloc a.size (.cells #[I J c] 3);exact⟨Z ⟨j.heap.size,0,N⟩,1,n,f,rfl,Nat.le_refl _,fI j [c] _ rfl,b.o.below (ba _ _),cT (aP w _) h,Nat.le_refl _,λx E' m d e=>.inl e,λx e=>.inl e⟩
theorem NS(A0:Oa)(n0 k0:Nat)(A1:Oa)(k1:Nat)(A2:Oa)(n2 k2:Nat)(s:Nat)(ms:List Mp)(compat:Bool)(w0:Wv)(hs0:s=w0.heap.size)(hA:Mps w0 A1 ms)(hst:StF ms)(hco:gG ms)(hbig:ms.length<=1048576)(c:Int)(toq:Li)(vs:List (Li))(hR:onM ms compat c=Z toq)(hlen:vs.length=toq.length)(hk:∀i,(hi:i<toq.length)->(hv:i<vs.length)->b_ (onM ms compat) toq[i] vs[i])
  (ih:∀i,(hi:i<toq.length)->(hv:i<vs.length)->XOk A0 n0 k0 A1 ms.length k1 A2 n2 k2 ms compat s w0 toq[i] vs[i]) (hc:iok c) (hl:vs.flatten.length<=4096)
  (w:Wv) (n:Nat) (f:Int->Option Value) (hms:XM A0 n0 k0 A1 ms.length k1 A2 n2 k2 ms compat s w n f) (hbel:Below s w0 w) (hn:n+unmarked (uM ms) (mkF f)<=1000000000) (hfc:f c=N) :
  Calls prog 118 #[I J c,.pointer (Z ⟨s+3,0,N⟩),.pointer (Z ⟨s,0,N⟩),.pointer (Z ⟨s+1,0,N⟩),.pointer (Z ⟨s+4,0,N⟩)] w
   (oV A0 n0 k0 A1 ms.length k1 A2 n2 k2 ms compat s c vs.flatten w n f):=by
 have ON:=G (λW(hb:Below s w0 W)=>t_ A0 n0 k0 A1 ms.length k1 A2 n2 k2 ms c compat W (hA.below (show Below w0.heap.size w0 W from hs0 ▸ hb)) rfl hbig hst);have q0:w.cell? ⟨s,0,N⟩=Z (H A0 n0 k0):=hms.bN.cell rfl;have q1:w.cell? ⟨s,1,N⟩=Z (H A1 ms.length k1):=hms.bN.cell rfl;have q2:w.cell? ⟨s,2,N⟩=Z (H A2 n2 k2):=hms.bN.cell rfl;have qb:w.cell? ⟨s+1,0,N⟩=Z (.bool compat):=hms.bB.cell rfl;have qm:w.cell? ⟨s+3,0,N⟩=Z (.map (Z (s+2))):=hms.bM.cell rfl;have HM:=G hms;have ar:=G ((b_.node hR hlen hk).noway);have an:=G (b_.node hR hlen hk);have HU:=G (TV hR);have am:=G (λe(he:e∈toq)x(h:x=e\/cK (onM ms compat) e x)=>show cK (onM ms compat) c x from h.elim (λg=>g ▸ .one ⟨toq,hR,he⟩) (λg=>g.front ⟨toq,hR,he⟩));have ap:=G (AB hco hR);have au:=G (AC hco hR).1;have IH:=G ih;have S:=G hlen;rw[hR]at ON;have bi:s+4<w.heap.size:=hms.bX.lt;clear hms hA hst hco hR hk ih hlen hs0;go_enter func118,ntmps118;go_wp2_with(at_lookup;refine mL rfl _ _ 171 rfl HM.o.mp jV underlying171 (u_ _) rfl rfl hc (jT hc) ?_;rw[hfc];simp only[Option.getD_none,Option.isSome_none]);refine(ON.o _ hbel).mono ?_
 rintro e w1 ⟨E,d,rfl,hd,hE,j⟩;simp only[Option.getD_some,Option.isSome_some]at hd hE|-;have T:=G (HM.o.below j);have F:s+4<w1.heap.size:=by have:=j.size;omega
 have a1:w.heap.size<=w1.heap.size:=j.size;have ao:=U (w.grownBy w1 (Z (s+2))) (cT (aP w _) j);have bj:=au.o;have ak:=G (hbel.trans (j.mono (by omega:s<=w.heap.size)));have HE:=G hE;clear ON hE j q0 q1 q2 qb qm;go_wp2
 go_loopw [11,35] (λu q wr=>∃(i M:Nat)(K:Int->Option Value)(B:Oa)(k:Nat),i<=toq.length/\u=H B ((vs.take i).flatten).length k/\q=I J i/\jQ A0 n0 k0 A1 ms.length k1 A2 n2 k2 ms compat s (cK (onM ms compat) c) ((vs.take i).flatten) w w1 n f B k wr M K)
  (λ_ q _=>toq.length-(intOf q).toNat)
 case atStart=>
  exact⟨0,n,f,N,0,Nat.zero_le _,rfl,rfl,⟨World.ownsRow_nil _ _ _ _,T.o,aP _ _,Nat.le_refl _,λx E' m d e=>.inl e,λx e=>.inl e,lS.nil f⟩⟩
 obtain⟨i,M,K,B,k,a6,rfl,rfl,R⟩:=hrel;have a:=G R;clear R;by_cases hi:i<toq.length
 ·have hv:i<vs.length:=by rw[S.o];exact hi
  obtain⟨b,o,rfl,r⟩:=(show aA wr E toq from Sl.grownM HE.o a.o.gr T.o.mp.nocell).at hi;have be:=r i hi;clear r;have p5:wr.cell? ⟨s+4,0,N⟩=Z (.func (.func 118) #[] #[.pointer (Z ⟨s+3,0,N⟩),.pointer (Z ⟨s,0,N⟩),.pointer (Z ⟨s+1,0,N⟩),.pointer (Z ⟨s+4,0,N⟩)]):=a.o.st.bX.cell rfl;have t:toq[i]∈toq:=List.getElem_mem hi;have bh:((vs.take i).flatten).length+vs[i].length<=4096:=by
   have h1:=OO vs (i+1);rw[yG hv,List.length_append]at h1;omega
  have CL:=G (IH.o i hi hv (ap.o _ t) O wr M K a.o.st (ak.o.trans (lB a.o.gr O O)) (by have:=a.o.pot;omega));have NX:=G (λ(E2:Oa) W n9 f9 (p:oU A0 n0 k0 A1 ms.length k1 A2 n2 k2 ms compat s toq[i] vs[i] wr M K E2 W n9 f9)=>a.o.call a1 F (am.o _ t) p);have FSq:=G (yG hv);clear t;generalize toq[i]=te at *;generalize vs[i]=ve at *;generalize (vs.take i).flatten=fl at *;go_wp2_with fail;refine CL.o.mono ?_
  rintro e W ⟨E2,d2,n9,f9,rfl,bg,hp⟩;have A:=G (NX.o E2 W n9 f9 hp);have P:=G hp.ints;clear hp CL NX p5 a;go_wp2_with(at_builtin;refine a_ _ _ 33 3 (I J 0) 1 8 rfl rfl underlying33 cU rfl V V rfl A.o.own rfl P.o L (cJ _) O A.o.lt ?_;intro B3 k3 w3 z bf ab l aa);have aq:=G (A.o.app F z ab l aa);clear z ab l aa A P;go_wp2;go_roundw
  case rel=>exact⟨i+1,n9,f9,B3,k3,O,by rw[FSq.o,List.length_append],oN_,by rw[FSq.o];exact aq.o⟩
  exact oI_
 have az:i=toq.length:=O;subst az;have p3:wr.cell? ⟨s+3,0,N⟩=Z (.map (Z (s+2))):=a.o.st.bM.cell rfl;have ae:(vs.take toq.length).flatten=vs.flatten:=by rw[<-S.o,List.take_length]
 rw[ae]at a|-;have C:K c=N:=by
  cases hx:K c with
  |none=>rfl
  |some v=>
   rcases a.o.mks c (by rw[hx];simp)with e|e
   ·exact absurd hfc e
   exact absurd e ar.o
 have D:M+1+unmarked (uM ms) (dR (mkF K) c 0)<=n+unmarked (uM ms) (mkF f):=by
  have h1:=FK (k:=0) HU.o (SN.2 C);have h2:=a.o.pot;omega
 have X:=G D;have a0:M < maxLen:=by unfold maxLen;omega
 obtain⟨af,ad⟩:vs.flatten.length<=k/\∀g o,B=Z ⟨g,o,N⟩->w.heap.size<=g:=by
  refine⟨?_,λg o hB=>?_⟩
  ·obtain⟨_,_,hv,hk⟩:=iC a.o.own
   injection hv with _ _ hv;subst hv;exact hk
  subst hB;rcases a.o.own.2 with⟨hv,_⟩|⟨g',bb,bc,hv,h1,h2,_⟩
  ·cases hv
  injection hv with hv;injection hv with hv;injection hv with hv;subst hv;omega
 have al:=G ad;have Q:=U (aA wr B vs.flatten) (Sl.of_own a.o.own);clear D C ad ae;generalize vs.flatten=fl at *;go_wp2_with(at_mapUpdate;refine oM rfl _ _ _ 171 rfl a.o.st.mp jV underlying171 a0 rfl rfl rfl hc (jT hc) (λy _ e=>tD e) ?_;intro w3 ay l);go_ret;refine⟨B,k,M+1,_,rfl,af,Sl.grownM Q.o l a.o.st.mp.nocell,a.o.st.put ay l af an.o Q.o,(bK (bK ao.o a.o.gr) l),by rw[SQ];exact X.o,λx E' m d e=>?_,λx e=>?_⟩
 ·by_cases hx:x=c
  ·rw[if_pos hx]at e
   injection e with e;injection e with Y e2 e3;subst Y;exact .inr (.inr al.o)
  rw[if_neg hx]at e;exact a.o.fr x E' m d e
 by_cases hx:x=c
 ·exact .inr (.inl hx)
 rw[if_neg hx]at e;rcases a.o.mks x e with Y|Y
 ·exact .inl Y
 exact .inr (.inr Y)
theorem NT(A0:Oa)(n0 k0:Nat)(A1:Oa)(k1:Nat)(A2:Oa)(n2 k2:Nat)(s:Nat)(ms:List Mp)(compat:Bool)(w0:Wv)(hs0:s=w0.heap.size)(hA:Mps w0 A1 ms)(hst:StF ms)(hco:gG ms)(hbig:ms.length<=1048576){c:Int}{l:Li}
  (hfull:b_ (onM ms compat) c l):XOk A0 n0 k0 A1 ms.length k1 A2 n2 k2 ms compat s w0 c l:=by
 induction hfull with
 | @leaf c hR=>
  intro hc hl w n f b a hn;cases hf:f c with
  |some v=>exact x_ A0 n0 k0 A1 k1 A2 n2 k2 s ms compat w0 hs0 hA hst hco hbig c [c] (.leaf hR) hc w n f b a hn hf
  |none=>exact NR A0 n0 k0 A1 k1 A2 n2 k2 s ms compat w0 hs0 hA hst hco hbig c hR hc w n f b a hn hf
 | @node c toq vs hR hlen hk ih=>
  intro hc hl w n f b a hn;cases hf:f c with
  |some v=>exact x_ A0 n0 k0 A1 k1 A2 n2 k2 s ms compat w0 hs0 hA hst hco hbig c _ (.node hR hlen hk) hc w n f b a hn hf
  |none=>exact NS A0 n0 k0 A1 k1 A2 n2 k2 s ms compat w0 hs0 hA hst hco hbig c toq vs hR hlen hk ih hc hl w n f b a hn hf
end
end Go.Proofs.YtkhmjidaeliccaaGreatDoor
