import Derived.Test.YtpfbnikbebccjaaGreatDoorU00
import Derived.Test.YtpfbnikbebccjaaGreatDoorU01
import Derived.Test.YtpfbnikbebccjaaGreatDoorU03
import Derived.Test.YtpfbnikbebccjaaGreatDoorU04
import Derived.Test.YtpfbnikbebccjaaGreatDoorU06
import Derived.Test.YtpfbnikbebccjaaGreatDoorU11
import Derived.Test.YtpfbnikbebccjaaGreatDoorU16
import Derived.Test.YtpfbnikbebccjaaGreatDoorU17
import Derived.WideKeyArr
import Derived.RegionTactic
import Derived.BigQuiet
import Derived.Laws.CopyOwn
import Derived.Deep.RegionLaw
set_option maxRecDepth 100000
set_option maxHeartbeats 51200000
namespace Go.Proofs.YtpfbnikbebccjaaGreatDoor
open Option renaming none->N,some->Z
open Value renaming int->I,slice->H
open IntKind renaming i64->J
open Go.Proofs.Tryz
section
open Go.RowKit Go.Maps Go.WideMaps
theorem P_:ArrKey prog 215 3 9:=⟨underlying215,by kernel_rfl,by kernel_rfl,by kernel_rfl⟩
theorem tD:Keyed prog 215:=Keyed.of_law P_.law
noncomputable def jE(zs:Li):Lit:=(keyOf prog 215 (kO zs)).getD (.bool false)
def kok(zs:Li):Prop:=zs.length<=8/\∀z∈zs,(Lit.int .i64 z).wf=true
theorem TU{α:Type}(l:List α)(h:l.length=9):∃a b c d e f g i j,l=[a,b,c,d,e,f,g,i,j]:=by
 match l,h with
 | [a,b,c,d,e,f,g,i,j],_=>exact⟨a,b,c,d,e,f,g,i,j,rfl⟩
theorem PM(l:Li)(h:l.length=9)(hw:∀z∈l,(Lit.int .i64 z).wf=true):(keyOf prog 215 (.agg (l.map (Value.int .i64)).toArray)).isSome=true:=by
 obtain⟨z0,z1,z2,z3,z4,z5,z6,z7,z8,rfl⟩:=TU l h;have w0:=hw z0 (by simp);have w1:=hw z1 (by simp);have w2:=hw z2 (by simp);have w3:=hw z3 (by simp);have w4:=hw z4 (by simp);have w5:=hw z5 (by simp);have w6:=hw z6 (by simp);have w7:=hw z7 (by simp);have w8:=hw z8 (by simp);have hk:prog.keyType 215=true:=by kernel_rfl
 have hu:=underlying215;have hi:=underlying3;have hc9:prog.cellsOf 215=9:=by kernel_rfl
 have hc1:prog.cellsOf 3=1:=by kernel_rfl
 obtain⟨m,hm⟩:∃m,prog.types.size=m+1:=⟨prog.types.size-1,by kernel_rfl⟩;unfold keyOf;rw[hu];simp only[hk,hm,Value.formed,hu,hc9];unfold Program.keyLits;rw[hu];simp only[hc9,hc1];simp[Program.keyLits,hi,w0,w1,w2,w3,w4,w5,w6,w7,w8,List.range,List.range.loop,Value.cells]
theorem PN{zs:Li}(h:zs.length<=8):(iE zs).length=9:=by simp[iE];omega
theorem pI{zs:Li}(h:kok zs):keyOf prog 215 (kO zs)=Z (jE zs):=by
 have h9:=PM (iE zs) (PN h.1) (fun z hz=>by
  simp only[iE,List.mem_cons,List.mem_append,List.mem_replicate]at hz
  rcases hz with rfl|hz|⟨_,rfl⟩
  ·have:=h.1;exact qI (by omega) (by omega)
  ·exact h.2 z hz
  ·exact qI (by omega) (by omega))
 unfold jE;have e:kO zs=.agg ((iE zs).map (Value.int .i64)).toArray:=rfl;rw[e];cases hk:keyOf prog 215 (.agg ((iE zs).map (Value.int .i64)).toArray)with
 |none=>rw[hk]at h9;cases h9
 |some x=>rfl
theorem PZ{xs ys:Li}(h:kO xs=kO ys):xs=ys:=by
 have h1:(iE xs).map (Value.int .i64)=(iE ys).map (Value.int .i64):=by
  injection h with h;exact congrArg Array.toList h
 have h2:iE xs=iE ys:=(List.map_inj_right (fun a b e=>by injection e)).1 h1;unfold iE at h2;injection h2 with h3 h4;exact(List.append_inj h4 (by omega)).1
theorem QC{xs ys:Li}(hx:kok xs)(hy:kok ys)(h:jE xs=jE ys):xs=ys:=by
 refine PZ ?_;have a:=pI hx;have b:=pI hy;rw[h]at a;exact tD.inj a b
def aL(es:List Ent)(zs:Li):Option (List Elt):=es.foldl (fun r x=>if x.codes=zs then Z x.elems else r) N
theorem QJ(l:List Ent)(x:Ent)(zs:Li):aL (l++[x]) zs=if x.codes=zs then Z x.elems else aL l zs:=by simp[aL,List.foldl_append]
theorem QK{es:List Ent}{i:Nat}(hi:i<es.length)(zs:Li):aL (es.take (i+1)) zs=if es[i].codes=zs then Z es[i].elems else aL (es.take i) zs:=by
 rw[List.take_succ_eq_append_getElem hi,QJ]
def dA(es:List Ent):Int:=es.foldl (fun r x=>max r (x.codes.length:Int)) 0
theorem Q_{es:List Ent}{i:Nat}(hi:i<es.length):dA (es.take (i+1))=max (dA (es.take i)) (es[i].codes.length:Int):=by
 rw[List.take_succ_eq_append_getElem hi];unfold dA;rw[List.foldl_append];rfl
theorem tF{es:List Ent}{k:Nat}(h:∀x∈es,x.codes.length<=k):0<=dA es/\dA es<=k:=by
 unfold dA;have:∀(l:List Ent)(r:Int),(∀x∈l,x.codes.length<=k)->0<=r->r<=k->0<=l.foldl (fun r x=>max r (x.codes.length:Int)) r/\l.foldl (fun r x=>max r (x.codes.length:Int)) r<=k:=by
  intro l;induction l with
  |nil=>intro r _ h0 h1;exact⟨h0,h1⟩
  |cons x l ih=>
   intro r hl h0 h1;have hx:=hl x (by simp);exact ih _ (fun y hy=>hl y (by simp[hy])) (by dsimp only;omega) (by dsimp only;omega)
 exact this es 0 h (by omega) (by omega)
theorem QZ{es:List Ent}{x:Ent}(h:x∈es):(x.codes.length:Int)<=dA es:=by
 unfold dA;have mono:∀(l:List Ent)(r:Int),r<=l.foldl (fun r x=>max r (x.codes.length:Int)) r:=by
  intro l;induction l with
  |nil=>intro r;exact Int.le_refl _
  |cons y l ih=>intro r;exact Int.le_trans (by dsimp only;omega) (ih _)
 have:∀(l:List Ent)(r:Int),x∈l->(x.codes.length:Int)<=l.foldl (fun r x=>max r (x.codes.length:Int)) r:=by
  intro l;induction l with
  |nil=>intro r h;cases h
  |cons y l ih=>
   intro r h;rcases List.mem_cons.1 h with rfl|h
   ·exact Int.le_trans (by dsimp only;omega) (mono l _)
   exact ih _ h
 exact this es 0 h
theorem tC{es:List Ent}{zs:Li}{e:List Elt}(h:aL es zs=Z e):∃x∈es,x.codes=zs/\x.elems=e:=by
 unfold aL at h;have:∀(l:List Ent)(r:Option (List Elt)),l.foldl (fun r x=>if x.codes=zs then Z x.elems else r) r=Z e->r=Z e\/∃x∈l,x.codes=zs/\x.elems=e:=by
  intro l;induction l with
  |nil=>intro r h;exact .inl h
  |cons y l ih=>
   intro r h;rcases ih _ h with h1|⟨x,hx,h2⟩
   ·dsimp only at h1
    split at h1
    ·next hy=>injection h1 with h1;exact .inr ⟨y,by simp,hy,h1⟩
    exact .inl h1
   exact .inr ⟨x,by simp[hx],h2⟩
 rcases this es N h with h|h
 ·cases h
 exact h
def gG(w:Wv)(f:Li->Option Value)(es:List Ent):Prop:=
 ∀zs,kok zs->match aL es zs with|none=>f zs=N|some e=>∃E d,f zs=Z (H E e.length d)/\cJ w E e
theorem gG.nil(w:Wv):gG w (fun _=>N) []:=fun _ _=>rfl
theorem gG.below{w w':Wv}{f:Li->Option Value}{es:List Ent}(h:gG w f es)(hb:By w w'):gG w' f es:=fun zs hz=>by
 have:=h zs hz;cases hl:aL es zs with
 |none=>rw[hl]at this;exact this
 |some e=>
  rw[hl]at this;obtain⟨E,d,h1,h2⟩:=this;exact⟨E,d,h1,h2.below hb⟩
theorem gG.put{w:Wv}{f:Li->Option Value}{es:List Ent}{i:Nat}(h:gG w f (es.take i))(hi:i<es.length){E:Oa}{d:Nat}(hE:cJ w E es[i].elems):
  gG w (fun y=>if y=es[i].codes then Z (H E es[i].elems.length d)else f y) (es.take (i+1)):=fun zs hz=>by
 rw[QK hi];by_cases e:es[i].codes=zs
 ·rw[if_pos e]
  dsimp only;rw[if_pos e.symm];exact⟨E,d,rfl,hE⟩
 rw[if_neg e];dsimp only;rw[if_neg (fun x=>e x.symm)];exact h zs hz
def cC(c:Col):Col:=if aW c=0 then c else⟨[],[],64448,32,2⟩
def kV(A:Oa)(n a:Nat)(B:Oa)(m b:Nat)(c:Col)(M:Nat)(long:Int)(cl:Value)(top:Int):Lv:=
 [H A n a,H B m b,I J c.base,I J c.second,I J c.third,.map (Z M),I J long,cl,I J top]
structure eJ(w:Wv)(T:Nat)(c:Col)(cl:Value)(top:Int):Prop where
 ex:∃A n a B m b M k f,Box w T 213 (kV A n a B m b c M (dA c.ents) cl top)/\aT prog 215 jE kok w M k f/\gG w f c.ents
theorem eJ.below{w w':Wv}{T:Nat}{c:Col}{cl:Value}{top:Int}(h:eJ w T c cl top)(hb:By w w'):eJ w' T c cl top:=by
 obtain⟨A,n,a,B,m,b,M,k,f,h1,h3,h4⟩:=h.ex;exact⟨A,n,a,B,m,b,M,k,f,h1.below hb h1.lt,h3.below hb,h4.below hb⟩
def rD(c:Col)(w:Wv)(e:Ending)(w':Wv):Prop:=∃T,e=.returned (.pointer (Z ⟨T,0,N⟩))/\w.heap.size<=T/\eJ w' T c (H N 0 0) 0/\By w w'
theorem oU{base:Int}{es:List Ent}{p:Option Ent}(h:eW base es p=0):∀x∈es,cD base x=0:=by
 induction es generalizing p with
 |nil=>intro x hx;cases hx
 |cons y r ih=>
  intro x hx;unfold eW at h;by_cases h1:cD base y=0
  ·rcases List.mem_cons.1 hx with rfl|hx
   ·exact h1
   simp only[h1,ne_eq,not_true_eq_false,if_false]at h;cases p with
   |none=>exact ih h x hx
   |some z=>
    simp only at h;split at h
    ·cases h
    exact ih h x hx
  rw[if_pos h1]at h;exact absurd h h1
theorem mB{base:Int}{x:Ent}(h:cD base x=0):1<=x.codes.length/\x.codes.length<=8/\x.elems.length<=16/\∀z∈x.codes,0<=z/\z<=1114111:=by
 unfold cD at h;split at h
 ·cases h
 next h1=>
 split at h
 ·cases h
 next h2=>
 refine⟨by omega,by omega,by omega,fun z hz=>?_⟩;simp at h2;exact h2 z hz
theorem mW{c:Col}(h:aW c=0):eW c.base c.ents N=0:=by
 unfold aW at h;split at h
 ·cases h
 split at h
 ·next h1=>exact absurd h h1
 exact h
theorem JV{base:Int}{x:Ent}(h:cD base x=0):kok x.codes:=by
 obtain⟨_,h8,_,hz⟩:=mB h;exact⟨h8,fun z hz'=>by have:=hz z hz';exact qI (by omega) (by omega)⟩
theorem JU{c:Col}(h:aW c=0){i:Nat}(hi:i<c.ents.length):kok c.ents[i].codes/\1<=c.ents[i].codes.length/\c.ents[i].codes.length<=8:=by
 have:=oU (mW h) _ (List.getElem_mem hi);exact⟨JV this,(mB this).1,(mB this).2.1⟩
theorem RJ(A:Oa)(n a:Nat)(B:Oa)(m b:Nat)(c:Col)(w:Wv)(h:aU w A n B m c)(hz:bW c)(he:aW c=0):
  Calls prog 145 #[aQ A n a B m b c] w (rD c w):=by
 have B0:By w (w.alloc (.cells #[H A n a,H B m b,I J c.base,I J c.second,I J c.third] 32)):=ba _ _;have s0:(w.alloc (.cells #[H A n a,H B m b,I J c.base,I J c.second,I J c.third] 32)).heap.size=w.heap.size+1:=by simp
 have k0:(w.alloc (.cells #[H A n a,H B m b,I J c.base,I J c.second,I J c.third] 32)).cell? ⟨w.heap.size,0,N⟩=Z (H A n a):=by simp
 have k1:(w.alloc (.cells #[H A n a,H B m b,I J c.base,I J c.second,I J c.third] 32)).cell? ⟨w.heap.size,1,N⟩=Z (H B m b):=by simp
 have k2:(w.alloc (.cells #[H A n a,H B m b,I J c.base,I J c.second,I J c.third] 32)).cell? ⟨w.heap.size,2,N⟩=Z (I J c.base):=by simp
 have k3:(w.alloc (.cells #[H A n a,H B m b,I J c.base,I J c.second,I J c.third] 32)).cell? ⟨w.heap.size,3,N⟩=Z (I J c.second):=by simp
 have k4:(w.alloc (.cells #[H A n a,H B m b,I J c.base,I J c.second,I J c.third] 32)).cell? ⟨w.heap.size,4,N⟩=Z (I J c.third):=by simp
 have W0E:∃W0,w.alloc (.cells #[H A n a,H B m b,I J c.base,I J c.second,I J c.third] 32)=W0:=⟨_,rfl⟩;have CK:=G (fun W(hb:By w W)=>rQ A n a B m b c W (h.below hb) hz);have HE:=G h.ents;have hn:=h.hn;have hnz:=hz.n;have HCD:=G (fun i hi=>JU he (i:=i) hi);have HER:=G he;have LB:=G (fun i=>tF (es:=c.ents.take i) (k:=8) (fun x hx=>(mB (oU (mW he) x (List.mem_of_mem_take hx))).2.1));have hmm:=@run_makeMap prog;clear h hz he;unfold aQ at *;subst hn;go_enter func145,ntmps145;go_wp2_with fail;obtain⟨W0,hW0⟩:=W0E;rw[hW0]at B0 s0 k0 k1 k2 k3 k4|-;clear hW0;have hx0:w.heap.size<W0.heap.size:=by omega
 with_reducible refine(CK.out W0 B0).mono ?_
 rw[HER.out];rintro e W1 ⟨rfl,hb1⟩;clear CK;have hb2:=B0.trans (hb1.mono B0.size);have f0:=(hb1.cell (p:=⟨w.heap.size,0,N⟩) hx0).trans k0;have f1:=(hb1.cell (p:=⟨w.heap.size,1,N⟩) hx0).trans k1;have f2:=(hb1.cell (p:=⟨w.heap.size,2,N⟩) hx0).trans k2;have f3:=(hb1.cell (p:=⟨w.heap.size,3,N⟩) hx0).trans k3;have f4:=(hb1.cell (p:=⟨w.heap.size,4,N⟩) hx0).trans k4;have hx1:w.heap.size<W1.heap.size:=by have:=hb1.size;omega
 have hx2:¬w.heap.size=W1.heap.size:=by omega
 have hx3:¬w.heap.size=W1.heap.size+1:=by omega
 have KC:=G (And.intro f0 (And.intro f1 (And.intro f2 (And.intro f3 f4))));clear k0 k1 k2 k3 k4;have B2:By W1 ((W1.alloc (.map #[] 0)).alloc (.cells #[H A c.ents.length a,H B m b,I J c.base,I J c.second,I J c.third,.map (Z W1.heap.size),I J 0,H N 0 0,I J 0] 213)):=(ba _ _).alloc (by simp) _;have X2:Box ((W1.alloc (.map #[] 0)).alloc (.cells #[H A c.ents.length a,H B m b,I J c.base,I J c.second,I J c.third,.map (Z W1.heap.size),I J 0,H N 0 0,I J 0] 213)) (W1.heap.size+1) 213 (kV A c.ents.length a B m b c W1.heap.size (0) (H N 0 0) 0):=Box.new _ _ _ (by simp);have M2:aT prog 215 jE kok ((W1.alloc (.map #[] 0)).alloc (.cells #[H A c.ents.length a,H B m b,I J c.base,I J c.second,I J c.third,.map (Z W1.heap.size),I J 0,H N 0 0,I J 0] 213)) W1.heap.size 0 (fun _=>N):=(aT.made prog _ jE kok W1).alloc _;have s2:((W1.alloc (.map #[] 0)).alloc (.cells #[H A c.ents.length a,H B m b,I J c.base,I J c.second,I J c.third,.map (Z W1.heap.size),I J 0,H N 0 0,I J 0] 213)).heap.size=W1.heap.size+2:=by simp
 have W2E:∃W2,(W1.alloc (.map #[] 0)).alloc (.cells #[H A c.ents.length a,H B m b,I J c.base,I J c.second,I J c.third,.map (Z W1.heap.size),I J 0,H N 0 0,I J 0] 213)=W2:=⟨_,rfl⟩;go_wp2_with fail;obtain⟨W2,hW2⟩:=W2E;rw[hW2]at B2 X2 M2 s2|-;clear hW2 f0 f1 f2 f3 f4;have HX2:=G X2;have HM2:=G M2;clear X2 M2 hmm;have L0:=U (dA (c.ents.take 0)=0) rfl;go_loopw [5,17] (fun _ u wr=>∃(i:Nat)(f:Li->Option Value),i<=c.ents.length/\u=I J i/\Box wr (W1.heap.size+1) 213 (kV A c.ents.length a B m b c W1.heap.size (dA (c.ents.take i)) (H N 0 0) 0)/\aT prog 215 jE kok wr W1.heap.size i f/\gG W1 f (c.ents.take i)/\By W1 wr) (fun _ u _=>c.ents.length-(intOf u).toNat)
 case atStart=>exact⟨0,fun _=>N,Nat.zero_le _,rfl,HX2.out,HM2.out,by rw[List.take_zero];exact gG.nil _,B2⟩
 obtain⟨i,f,hi,rfl,hX,hM,hT,hbr⟩:=hrel;have HX:=G hX;have HM:=G hM;have HT:=G hT;have hXl:=hX.lt;clear hX hM hT HX2 HM2 L0;by_cases hlt:i<c.ents.length
 ·obtain⟨b1,o1,rfl,hbl,hcell⟩:=(HE.out.below hb2).at hlt
  obtain⟨C,cc,E,dd,c1',c2',hC,hE⟩:=hcell i hlt;obtain⟨hkok,hl1,hl8⟩:=HCD.out i hlt;have c1:=(hbr.cell (p:=⟨b1,o1+i*2,N⟩) hbl).trans c1';have c2:=(hbr.cell (p:=⟨b1,o1+i*2+1,N⟩) hbl).trans c2';have HKK:=G hkok;have HINT:=G (fun W(hb:By W1 W)=>hC.below hb);have LS:=G (Q_ hlt);have lb:=LB.out i;have lb1:=LB.out (i+1);have TP:=G (HT.out.put hlt (E:=E) (d:=dd) hE);have hbl2:b1<wr.heap.size:=Nat.lt_of_lt_of_le hbl hbr.size;have hn1:¬b1=wr.heap.size:=by omega
  clear hcell hkok hC hE c1' c2' HT;generalize c.ents[i].codes=cds at *;generalize c.ents[i].elems=els at *;have Ba:By wr (wr.alloc (.cells #[H C cds.length cc,H E els.length dd] 109)):=ba _ _;have Xa:Box (wr.alloc (.cells #[H C cds.length cc,H E els.length dd] 109)) wr.heap.size 109 [H C cds.length cc,H E els.length dd]:=Box.new _ _ _ rfl;have sa:(wr.alloc (.cells #[H C cds.length cc,H E els.length dd] 109)).heap.size=wr.heap.size+1:=by simp
  have WaE:∃Wa,wr.alloc (.cells #[H C cds.length cc,H E els.length dd] 109)=Wa:=⟨_,rfl⟩;go_wp2_with fail;obtain⟨Wa,hWa⟩:=WaE;rw[hWa]at Ba Xa sa|-;clear hWa c1 c2;have XT:=HX.out.below Ba hXl;have t5:=XT.cell (i:=5) (v:=.map (Z W1.heap.size)) rfl;have e0:=Xa.c 0 rfl;have e1:=Xa.c 1 rfl;have HXT:=G XT;have HXA:=G Xa;have hba:=hbr.trans (Ba.mono hbr.size)
  have KY:=G ((yK C cds.length cc cds Wa.drew (HINT.out _ hba.drew) rfl hl1 hl8).mono (R':=fun e w'=>e=.returned (kO cds)/\(w'.cell? ⟨W1.heap.size+1,5,N⟩=Z (.map (Z W1.heap.size))/\w'.cell? ⟨wr.heap.size,0,N⟩=Z (H C cds.length cc)/\w'.cell? ⟨wr.heap.size,1,N⟩=Z (H E els.length dd))/\By Wa w') (fun e w'⟨he,hb⟩=>by
   have hb':By Wa w':=((Below.refl _ Wa).drew).trans hb
   exact⟨he,⟨(hb'.cell (p:=⟨W1.heap.size+1,5,N⟩) (show W1.heap.size+1<_ by omega)).trans t5,(hb'.cell (p:=⟨wr.heap.size,0,N⟩) (show wr.heap.size<_ by omega)).trans e0,(hb'.cell (p:=⟨wr.heap.size,1,N⟩) (show wr.heap.size<_ by omega)).trans e1⟩,hb'⟩))
  clear XT Xa;refine wp_region_held_drew (S:=fun W'=>W'.cell? ⟨W1.heap.size+1,5,N⟩=Z (.map (Z W1.heap.size))/\W'.cell? ⟨wr.heap.size,0,N⟩=Z (H C cds.length cc)/\W'.cell? ⟨wr.heap.size,1,N⟩=Z (H E els.length dd)) (by kernel_rfl) ⟨t5,e0,e1⟩ (fun hHeld=>?_);refine tK 0 21 ?_;refine tK 1 22 ?_;refine tK 2 23 ?_;refine tK 3 24 ?_;refine tK 4 25 ?_;refine tK 5 26 ?_;refine tK 7 28 ?_;refine tK 8 29 ?_;refine lE (R:=fun W'=>By Wa W') (i:=6) (Z 27) rfl rfl (by kernel_rfl) (by rfl) (by go_simp) KY.out (fun w6 hS6 hR6=>?_);clear hHeld KY;have hHeld:=hS6;clear hS6;try simp only[Act.put,sA,sB,sC]
  have hwb:=Ba.trans (hR6.mono Ba.size);refine GQ (val:=H E els.length dd) (i:=9) N rfl rfl (by kernel_rfl) (by rfl) _ _ _ _ rfl (HM.out.below hwb) tD underlying211 (by unfold maxLen;omega) rfl rfl rfl HKK.out (pI HKK.out) (fun y hy e=>QC hy HKK.out e) (fun w' hg=>?_) (fun w7 hM7 hg7=>?_)
  ·have h6:=hR6.size
   exact⟨(World.cell?_of_block (hg.block (W1.heap.size+1) (by omega) (by simp))).trans hHeld.1,(World.cell?_of_block (hg.block wr.heap.size (by omega) (by simp;omega))).trans hHeld.2.1,(World.cell?_of_block (hg.block wr.heap.size (by omega) (by simp;omega))).trans hHeld.2.2⟩
  refine wpAnyH_done (by kernel_rfl) ?_ _;have h6:=hR6.size;have hb7:=kD (hba.trans (hR6.mono (by omega:W1.heap.size<=Wa.heap.size))) hg7 (Nat.le_refl _) (by omega);have X7:=(HXT.out.below hR6 (by omega)).grown hg7 (by simp);have Y7:=(HXA.out.below hR6 (by omega)).grown hg7 (by simp;omega);have HX7:=G X7;have HM7:=G hM7;have t6:=X7.cell (i:=6) (v:=I J (dA (c.ents.take i))) rfl;have z6:=X7.free 6;have u0:=Y7.c 0 rfl;have g7:=hg7.size;clear X7 Y7 hM7 hg7 HM HX HXT HXA hHeld t5 e0 e1;generalize dA (c.ents.take i)=l0 at *;go_wp2_with fail;go_region
  all_goals
   go_wp2_with fail;go_roundw
   case rel=>
    have e:(if l0<(cds.length:Int)then(cds.length:Int)else l0)=dA (c.ents.take (i+1)):=by rw[LS.out];split<;>omega
    refine⟨i+1,_,by omega,by go_num,?_,(HM7.out.kept (dU _ _ _) (by simp)).below ((Below.refl _ _).drew),TP.out,(hb7.setCell (p:=⟨W1.heap.size+1,6,N⟩) (by show W1.heap.size<=W1.heap.size+1;omega) _).drew⟩;rw[e];exact HX7.out.set 6 _
   simp[intOf];omega
 obtain rfl:i=c.ents.length:=by omega
 have hXX:=HX.out;have hTT:=HT.out;rw[List.take_length]at hXX hTT;have HXX:=G hXX;have HTT:=G hTT;clear hXX hTT HT HX;go_wp2_with fail;go_ret;exact⟨W1.heap.size+1,rfl,by omega,⟨A,c.ents.length,a,B,m,b,W1.heap.size,_,_,HXX.out,HM.out,HTT.out.below hbr⟩,hb2.trans (hbr.mono hb2.size)⟩
def qU(r:Option (List Elt))(w:Wv)(e:Ending)(w':Wv):Prop:=∃E d,e=.returned (.tuple #[H E (r.getD []).length d,.bool r.isSome])/\cJ w' E (r.getD [])/\By w w'
theorem zA0(w:Wv):(zeroValue 107).run prog w=.ok (H N 0 0) w:=by kernel_rfl
theorem gG.at{w:Wv}{f:Li->Option Value}{es:List Ent}(h:gG w f es){zs:Li}(hz:kok zs):
  ∃E d,(f zs).getD (H N 0 0)=H E ((aL es zs).getD []).length d/\(f zs).isSome=(aL es zs).isSome/\cJ w E ((aL es zs).getD []):=by
 have:=h zs hz;cases hl:aL es zs with
 |none=>rw[hl]at this;simp only at this;rw[this];exact⟨N,0,rfl,rfl,Sl.nil _ _⟩
 |some e=>
  rw[hl]at this;obtain⟨E,d,h1,h2⟩:=this;rw[h1];exact⟨E,d,rfl,rfl,h2⟩
theorem QI{es:List Ent}(h:∀x∈es,1<=x.codes.length):aL es []=N:=by
 cases hl:aL es []with
 |none=>rfl
 |some e=>
  obtain⟨x,hx,h1,_⟩:=tC hl;have:=h x hx;rw[h1]at this;simp at this
theorem yM{es:List Ent}{zs:Li}(h:dA es<(zs.length:Int)):aL es zs=N:=by
 cases hl:aL es zs with
 |none=>rfl
 |some e=>
  obtain⟨x,hx,h1,_⟩:=tC hl;have:=QZ hx;rw[h1]at this;omega
theorem zAs(T:Nat)(c:Col)(cl:Value)(top:Int)(C:Oa)(n cc:Nat)(zs:Li)(w:Wv)(hT:eJ w T c cl top)(hC:aA w C zs)(hn:zs.length=n)(hn2:n<=1048576)
  (hE:∀x∈c.ents,1<=x.codes.length/\x.codes.length<=8) (hw:∀z∈zs,(Lit.int .i64 z).wf=true) :
  Calls prog 168 #[.pointer (Z ⟨T,0,N⟩),H C n cc] w (qU (aL c.ents zs) w):=by
 obtain⟨A,n',a,B,m,b,M,k,f,hX,hM,hTF⟩:=hT.ex;subst hn;have t5:=hX.cell (i:=5) (v:=.map (Z M)) rfl;have t6:=hX.cell (i:=6) (v:=.int .i64 (dA c.ents)) rfl;have hlt:=hX.lt;have LB:=tF (k:=8) (fun x hx=>(hE x hx).2);have L1:=G (QI (fun x hx=>(hE x hx).1));have L2:=G (yM (es:=c.ents) (zs:=zs));have HAT:=G (fun hk=>hTF.at (zs:=zs) hk);have HM:=G hM;have KY:=G (fun W(hb:By w W)h1 h8=>yK C zs.length cc zs W (hC.below hb) rfl h1 h8);have HW:=G hw;clear hX hTF hM hT hw hE;by_cases h0:zs.length=0
 ·have hz:zs=[]:=List.length_eq_zero_iff.1 h0
  subst hz;rw[L1.out];clear L1 L2 HAT KY HW;go_enter func168,ntmps168;go_wp2_with fail;go_ret2;exact⟨N,0,rfl,Sl.nil _ _,Below.refl _ _⟩
 by_cases h1:dA c.ents<(zs.length:Int)
 ·rw[L2.out h1]
  clear L1 L2 HAT KY HW;have q0:((zs.length:Int)==0)=false:=by rw[beq_eq_false_iff_ne];omega
  have q1:decide (dA c.ents<(zs.length:Int))=true:=by simpa using h1
  generalize dA c.ents=lg at *;go_enter func168,ntmps168;go_wp2_with fail;go_ret2;exact⟨N,0,rfl,Sl.nil _ _,Below.refl _ _⟩
 have q0:((zs.length:Int)==0)=false:=by rw[beq_eq_false_iff_ne];omega
 have q1:decide (dA c.ents<(zs.length:Int))=false:=by simpa using h1
 have hkok:kok zs:=⟨by omega,HW.out⟩;obtain⟨E,d,v1,v2,hEl⟩:=HAT.out hkok;have HEL:=G hEl;have HV:=G (And.intro v1 v2);have HKK:=G hkok
 have KY2:=G (fun W(hb:By w W)=>(KY.out W hb (by omega) (by omega)).mono (R':=fun e w'=>e=.returned (kO zs)/\(w'.cell? ⟨T,5,N⟩=Z (.map (Z M))/\By w w')) (fun e w'⟨he,hb'⟩=>by
  have hb2:=hb.trans (hb'.mono hb.size)
  exact⟨he,(hb2.cell (p:=⟨T,5,N⟩) hlt).trans t5,hb2⟩))
 clear L1 L2 HAT KY HW hkok v1 v2 hEl;generalize dA c.ents=lg at *;generalize aL c.ents zs=r at *;go_enter func168,ntmps168;go_wp2_with fail;refine wp_region_held_drew (S:=fun W'=>W'.cell? ⟨T,5,N⟩=Z (.map (Z M))/\By w W') (by kernel_rfl) ⟨t5,(Below.refl _ _).drew⟩ (fun hHeld=>?_);refine tK 0 21 ?_;refine tK 1 22 ?_;refine tK 2 23 ?_;refine tK 3 24 ?_;refine tK 4 25 ?_;refine qK 5 26 (KY2.out _ hHeld.2) ?_;clear hHeld;intro w6 hHeld;refine GP (v:=.tuple #[H E (r.getD []).length d,.bool r.isSome]) (i:=6) (Z 27) rfl rfl (by kernel_rfl) (by kernel_rfl) (by kernel_rfl) (fun _ _ _ h=>h) (by rfl) (by assumption) _ _ _ rfl (fun w' hS'=>HM.out.below hS'.2) tD underlying211 zA0 rfl rfl HKK.out (pI HKK.out) (by rw[HV.out.1,HV.out.2]) ?_;try simp only[Act.put,sA,sB,sC]
 refine tK 7 20 ?_;refine tK 8 28 ?_;refine tK 9 29 ?_;refine tK 10 6 ?_;refine tK 11 7 ?_;refine wpAnyH_done (by kernel_rfl) ?_ _;go_wp2_with fail;go_ret2;exact⟨E,d,rfl,HEL.out.below hHeld.2,hHeld.2⟩
theorem zAD{c:Col}(h:aW c=0):∀x∈c.ents,1<=x.codes.length/\x.codes.length<=8:=fun x hx=>by
 have:=mB (oU (mW h) x hx);exact⟨this.1,this.2.1⟩
theorem QL{c:Col}(h:aW c=0)(zs:Li):((aL c.ents zs).getD []).length<=16:=by
 cases hl:aL c.ents zs with
 |none=>simp
 |some e=>
  obtain⟨x,hx,_,h2⟩:=tC hl;have:=(mB (oU (mW h) x hx)).2.2.1;rw[h2]at this;exact this
theorem eJ.cl{w:Wv}{T:Nat}{c:Col}{cl:Value}{top:Int}(h:eJ w T c cl top):w.cell? ⟨T,7,N⟩=Z cl/\T<w.heap.size:=by
 obtain⟨A,n,a,B,m,b,M,k,f,hX,_⟩:=h.ex;exact⟨hX.c 7 rfl,hX.lt⟩
theorem zAq(bt bc T:Nat)(A:Oa)(k:Nat)(cs:List Spn)(c:Int)(i:Nat)(W:Wv)(hS:aZ W A cs)(hi:i<cs.length)(ht:W.cell? ⟨bt,0,N⟩=Z (.pointer (Z ⟨T,0,N⟩)))(hc:W.cell? ⟨bc,0,N⟩=Z (I J c))(h7:W.cell? ⟨T,7,N⟩=Z (H A cs.length k)):
  Calls prog 187 #[I J i,.pointer (Z ⟨bt,0,N⟩),.pointer (Z ⟨bc,0,N⟩)] W (fH (decide (c<=cs[i].hi)) W):=by
 obtain⟨b,o,rfl,_,hcell⟩:=hS.at hi;obtain⟨c1,c2,c3⟩:=hcell i hi;clear hcell;generalize cs[i].hi=hh at *;generalize cs[i].lo=ll at *;generalize cs[i].val=vv at *;go_enter func187,ntmps187;go_wp2_with fail;go_quiet(fail);go_wp2_with fail;go_ret;exact⟨rfl,jR _ _⟩
theorem zAr(T:Nat)(A:Oa)(k:Nat)(cs:List Spn)(c:Int)(w:Wv)(hS:aZ w A cs)(hbig:cs.length<=1099511627776)(hasc:Asc cs)(hT:T<w.heap.size)(h7:w.cell? ⟨T,7,N⟩=Z (H A cs.length k)):
  Calls prog 170 #[.pointer (Z ⟨T,0,N⟩),I J c] w (cA (cls cs c) w):=by
 have H0:By w ((w.alloc (.cells #[.pointer (Z ⟨T,0,N⟩)] 191)).alloc (.cells #[I J c] 3)):=(ba _ _).alloc (by simp) _;have X0:Box ((w.alloc (.cells #[.pointer (Z ⟨T,0,N⟩)] 191)).alloc (.cells #[I J c] 3)) w.heap.size 191 [.pointer (Z ⟨T,0,N⟩)]:=(Box.new w _ [.pointer (Z ⟨T,0,N⟩)] rfl).below (B:=w.heap.size+1) ((Below.refl _ _).alloc (by simp) _) (by omega);have X1:Box ((w.alloc (.cells #[.pointer (Z ⟨T,0,N⟩)] 191)).alloc (.cells #[I J c] 3)) (w.heap.size+1) 3 [I J c]:=Box.new _ _ _ (by simp);have W0E:∃W0,((w.alloc (.cells #[.pointer (Z ⟨T,0,N⟩)] 191)).alloc (.cells #[I J c] 3))=W0:=⟨_,rfl⟩;have HS:=G hS;have HASC:=G hasc;clear hS hasc;go_enter func170,ntmps170;go_wp2_with fail;obtain⟨W0,hW0⟩:=W0E;try rw[hW0]at H0 X0 X1|-
 clear hW0;have q0:=X0.c 0 rfl;have q1:=X1.c 0 rfl;have q7:W0.cell? ⟨T,7,N⟩=Z (H A cs.length k):=(H0.cell hT).trans h7;have l0:=X0.lt;have l1:=X1.lt;have CF:=G (fun(i:Nat) (W:Wv) (hi:i<cs.length) (hb:By W0 W)=>zAq w.heap.size (w.heap.size+1) T A k cs c i W (HS.out.below (H0.trans (hb.mono H0.size))) hi ((hb.cell l0).trans q0) ((hb.cell l1).trans q1) ((hb.cell (by have:=H0.size;simp;omega)).trans q7))
 have SC:=G (uA 187 #[.pointer (Z ⟨w.heap.size,0,N⟩),.pointer (Z ⟨w.heap.size+1,0,N⟩)] cs.length (fun i=>decide (c<=(cs.getD i ⟨0,0,0⟩).hi)) W0 (enters_of func187 (by kernel_rfl) rfl) hbig
  (fun i W hi hb=>by
   have h:=CF.out i W hi hb
   have e:(cs.getD i ⟨0,0,0⟩)=cs[i]:=by simp[List.getD,hi]
   rw[e]
   exact h)
  (fun a b hab hb h=>by
   have e1:(cs.getD a ⟨0,0,0⟩)=cs[a]'(by omega):=by simp[List.getD,show a<cs.length by omega]
   have e2:(cs.getD b ⟨0,0,0⟩)=cs[b]:=by simp[List.getD,hb]
   simp only[e1,e2,decide_eq_true_eq]at h|-
   by_cases e:a=b
   ·subst e;exact h
   ·have:=(HASC.out a b (by omega) hb).2 (by omega)
    have:=(HASC.out b b hb hb).1
    omega))
 go_wp2_with fail;with_reducible refine SC.out.mono ?_
 rintro e W1 ⟨i,rfl,hF,hb1⟩;have H1:=H0.trans (hb1.mono H0.size);have p0:=(hb1.cell l0).trans q0;have p1:=(hb1.cell l1).trans q1;have p7:=(hb1.cell (by have:=H0.size;simp;omega)).trans q7;have hle:=hF.le;have HF:=G hF;clear SC CF X0 X1 q0 q1 q7 hF;by_cases hi:i<cs.length
 ·obtain⟨b,o,rfl,_,hcell⟩:=(HS.out.below H1).at hi
  obtain⟨c1,c2,c3⟩:=hcell i hi;clear hcell;have hhi:c<=cs[i].hi:=by
   have:=HF.out.hi i (Nat.le_refl _) hi;simpa[List.getD,hi]using this
  have HC:=U (cls cs c=if cs[i].lo<=c then cs[i].val else 0) (by
   by_cases hl:cs[i].lo<=c
   ·rw[if_pos hl];exact wG cs c i hi HASC.out hl hhi
   ·rw[if_neg hl]
    refine rS cs c fun t ht=>?_
    rintro⟨g1,g2⟩
    by_cases hti:t<i
    ·have:=HF.out.lo t hti
     simp[List.getD,ht]at this
     omega
    ·by_cases e:t=i
     ·subst e;exact hl g1
     ·have:=(HASC.out i t hi ht).2 (by omega)
      omega)
  clear hhi HF;generalize cls cs c=r at *;generalize cs[i].hi=hh at *;generalize cs[i].lo=ll at *;generalize cs[i].val=vv at *;have d1:decide ((i:Int)<(cs.length:Int))=true:=by simpa using hi
  by_cases hl:ll<=c
  ·have d2:decide (ll<=c)=true:=by simpa using hl
   have HR:=G (HC.out.trans (if_pos hl));go_wp2_with fail;go_quiet(fail);go_wp2_with fail;go_ret;exact⟨by rw[HR.out];rfl,H1.trans ((jR _ _).mono H1.size)⟩
  have d2:decide (ll<=c)=false:=by simpa using hl
  have HR:=G (HC.out.trans (if_neg hl));go_wp2_with fail;go_quiet(fail);go_wp2_with fail;go_ret;exact⟨by rw[HR.out];rfl,H1.trans ((jR _ _).mono H1.size)⟩
 ·have HC:=U (cls cs c=0) (rS cs c fun t ht=>by
   rintro⟨g1,g2⟩
   have:=HF.out.lo t (by omega)
   simp[List.getD,ht]at this
   omega)
  have d1:decide ((i:Int)<(cs.length:Int))=false:=by simpa using hi
  clear HF;generalize cls cs c=r at *;go_wp2_with fail;go_quiet(fail);go_wp2_with fail;go_ret;exact⟨by rw[HC.out];rfl,H1.trans ((jR _ _).mono H1.size)⟩
def f_(cs:List Spn):Int:=cs.foldl (fun r s=>max r s.val) 0
theorem zAv{cs:List Spn}{i:Nat}(hi:i<cs.length):f_ (cs.take (i+1))=max (f_ (cs.take i)) cs[i].val:=by
 unfold f_;rw[List.take_succ_eq_append_getElem hi,List.foldl_append];rfl
theorem zAu:∀{cs:List Spn}{s:Spn},s∈cs->s.val<=f_ cs:=by
 intro cs s h;have key:∀(l:List Spn)(r:Int),r<=l.foldl (fun r s=>max r s.val) r/\∀s∈l,s.val<=l.foldl (fun r s=>max r s.val) r:=by
  intro l;induction l with
  |nil=>intro r;exact⟨Int.le_refl _,fun s h=>by cases h⟩
  |cons x l ih=>
   intro r;obtain⟨h1,h2⟩:=ih (max r x.val);refine⟨by simp only[List.foldl_cons];omega,fun s hs=>?_⟩;simp only[List.foldl_cons];rcases List.mem_cons.1 hs with rfl|hs
   ·omega
   exact h2 s hs
 exact(key cs 0).2 s h
theorem JK(cs:List Spn)(c:Int):cls cs c<=f_ cs:=by
 induction cs with
 |nil=>exact Int.le_refl _
 |cons s r ih=>
  unfold cls;split
  ·exact zAu (by simp)
  refine Int.le_trans ih ?_;unfold f_;simp only[List.foldl_cons];have key:∀(l:List Spn)(a b:Int),a<=b->l.foldl (fun r s=>max r s.val) a<=l.foldl (fun r s=>max r s.val) b:=by
   intro l;induction l with
   |nil=>intro a b h;exact h
   |cons x l ih=>intro a b h;exact ih _ _ (by show max a x.val<=max b x.val;omega)
  exact key r 0 _ (by omega)
theorem zAC(x:Nrm):us (usN x).cls=(usN x).cls:=by
 unfold usN;split
 ·next h=>exact nU (tI h).1.c
 rfl
theorem Box.nobool{w:Wv}{T:Nat}{t:TypeId}{cs:Lv}(h:Box w T t cs)(hn:∀v∈cs,∀b,v≠.bool b){o:Nat}{b:Bool}:w.cell? ⟨T,o,N⟩≠Z (.bool b):=by
 unfold Box at h;intro e;simp[World.cell?,h]at e;obtain⟨h1,h2⟩:=List.getElem?_eq_some_iff.1 e;exact hn _ (List.getElem_mem h1) b h2
theorem cJ.off{w w':Wv}{T:Nat}{t:TypeId}{cs:Lv}{E:Oa}{es:List Elt}(h:cJ w E es)(hX:Box w T t cs)(hn:∀v∈cs,∀b,v≠.bool b)(hg:w.grownBy w' (Z T)):cJ w' E es:=by
 by_cases he:es=[]
 ·subst he;exact Sl.nil _ _
 have hpos:0<es.length:=List.length_pos_iff.2 he;obtain⟨b,o,rfl,hb,hc⟩:=h.at hpos
 have hne:b≠T:=fun e=>by
  subst e;exact hX.nobool hn (hc 0 hpos).2.2.2
 intro hnn;obtain⟨b',o',hA,hc'⟩:=h hnn;injection hA with hA;injection hA with i1 i2;subst i1;subst i2;refine⟨b,o,rfl,fun j u hu=>?_⟩;exact(World.cell?_of_block (hg.block b hb (fun e=>hne (by injection e)))).trans (hc' j u hu)
theorem eJ.put{w w':Wv}{T:Nat}{c:Col}{cl cl':Value}{top top':Int}(h:eJ w T c cl top)(hg:w.grownBy w' (Z T))(hcl:∀b,cl≠.bool b)(hX:∀cs,Box w T 213 cs->∀A n a B m b M,cs=kV A n a B m b c M (dA c.ents) cl top->Box w' T 213 (kV A n a B m b c M (dA c.ents) cl' top')):eJ w' T c cl' top':=by
 obtain⟨A,n,a,B,m,b,M,k,f,h1,h3,h4⟩:=h.ex;have hnb:∀v∈kV A n a B m b c M (dA c.ents) cl top,∀b,v≠.bool b:=by
  intro v hv x;unfold kV at hv;simp only[List.mem_cons,List.not_mem_nil,or_false]at hv;rcases hv with rfl|rfl|rfl|rfl|rfl|rfl|rfl|rfl|rfl;all_goals first|exact hcl x|(intro e;cases e)
 refine⟨A,n,a,B,m,b,M,k,f,hX _ h1 _ _ _ _ _ _ _ rfl,h3.kept hg (fun e=>?_),fun zs hz=>?_⟩
 ·injection e with e
  subst e;have h5:=h1.cell (i:=0) (v:=H A n a) rfl;rw[h3.nocell]at h5;cases h5
 have:=h4 zs hz;cases hl:aL c.ents zs with
 |none=>rw[hl]at this;exact this
 |some e=>
  rw[hl]at this;obtain⟨E,d,g1,g2⟩:=this;exact⟨E,d,g1,g2.off h1 hnb hg⟩
def FV(T:Nat)(c:Col)(cs:List Spn)(w:Wv)(e:Ending)(w':Wv):Prop:=e=.returned (.pointer (Z ⟨T,0,N⟩))/\(∃A k,eJ w' T c (H A cs.length k) (f_ cs)/\aZ w' A cs)/\w.grownBy w' (Z T)
theorem Sl.grownT{W W':Wv}{U:Nat}{A:Oa}{cs:Lv}(h:Sl W A cs)(hg:W.grownBy W' (Z U))(hU:∀b o,A=Z ⟨b,o,N⟩->b<W.heap.size->b≠U):Sl W' A cs:=by
 intro hne;obtain⟨b,o,hA,hc⟩:=h hne;refine⟨b,o,hA,fun j u hu=>?_⟩;have h1:=hc j u hu;have hlt:=World.block_lt_of_cell? W _ h1;exact(World.cell?_of_block (hg.block b hlt (fun e=>hU b o hA hlt (by injection e)))).trans h1
theorem zAX(A0:Oa)(n0 k0:Nat)(A1:Oa)(n1 k1:Nat)(A2:Oa)(n2 k2:Nat)(x:Nrm)(T:Nat)(c:Col)(w0 w:Wv)(hN:bA w0 A0 n0 A1 n1 A2 n2 x)(hz:cK x)(hL:dL w0)(hw:Below w0.heap.size w0 w)(hT0:w0.heap.size<=T)
  (hT:eJ w T c (H N 0 0) 0) :
  Calls prog 146 #[.pointer (Z ⟨T,0,N⟩),.agg #[H A0 n0 k0,H A1 n1 k1,H A2 n2 k2]] w (FV T c (usN x).cls w):=by
 have DC:=G (fun W(hb:Below w0.heap.size w0 W)=>rX A0 n0 k0 A1 n1 k1 A2 n2 k2 x W (hN.below hb) hz (hL.below hb));have HSP:=G hN.s0;have hn0:=hN.l0;have hcz:=hz.us.z0;have US:=G (DT (x:=x));have UB:=G (DS (x:=x));have HT:=G hT;have hTl:=hT.cl.2;clear hN hz hL hT;subst hn0;have H0:By w (w.alloc (.cells #[H A0 x.cls.length k0,H A1 n1 k1,H A2 n2 k2] 28)):=ba _ _;have X0:Box (w.alloc (.cells #[H A0 x.cls.length k0,H A1 n1 k1,H A2 n2 k2] 28)) w.heap.size 28 [H A0 x.cls.length k0,H A1 n1 k1,H A2 n2 k2]:=Box.new w _ [H A0 x.cls.length k0,H A1 n1 k1,H A2 n2 k2] rfl;have W0E:∃W0,(w.alloc (.cells #[H A0 x.cls.length k0,H A1 n1 k1,H A2 n2 k2] 28))=W0:=⟨_,rfl⟩;generalize bK x=er at *;generalize usN x=y at *;go_enter func146,ntmps146;go_wp2_with fail;obtain⟨W0,hW0⟩:=W0E;try rw[hW0]at H0 X0|-
 clear hW0;have q0:=X0.c 0 rfl;have q1:=X0.c 1 rfl;have q2:=X0.c 2 rfl;have hs0:=X0.lt;have hbw:Below w0.heap.size w0 W0:=hw.trans (H0.mono hw.size);go_wp2_with fail;with_reducible refine(DC.out _ hbw).mono ?_
 rintro e W1 ⟨rfl,hb1⟩;have H1:=H0.trans (hb1.mono H0.size);have p0:=(hb1.cell (p:=⟨w.heap.size,0,N⟩) hs0).trans q0;have HT1:=G (HT.out.below H1);have hbw1:=hbw.trans (hb1.mono hbw.size);have hT1l:=HT1.out.cl.2;clear DC HT q0 q1 q2 X0 hb1;by_cases he:er=0
 ·obtain rfl:=US.out he
  subst he;obtain⟨A3,n3,a3,B3,m3,b3,M3,k3',f3,hX3,hM3,hTF3⟩:=HT1.out.ex;have f7:=hX3.free 7;have e7:=HT1.out.cl.1;clear hX3 hM3 hTF3;have HT2:=U (eJ (W1.setCell ⟨T,7,N⟩ (H A0 y.cls.length k0)) T c (H A0 y.cls.length k0) (f_ (y.cls.take 0))) (HT1.out.put (dU _ _ _) (fun _=>by intro h;cases h) (fun cs h A n a B m b M e=>by subst e;exact h.set 7 _));have hsp1:aZ W1 A0 y.cls:=HSP.out.below hbw1
  have HNE:=U (y.cls≠[]->∀b o,A0=Z ⟨b,o,N⟩->b≠T) (fun hne b o hA e=>by
   obtain⟨b',o',hA',hc'⟩:=HSP.out (by cases hy:y.cls with|nil=>exact absurd hy hne|cons s r=>simp[fR])
   rw[hA]at hA'
   injection hA' with hA'
   injection hA' with i1 i2
   subst i1;subst i2
   cases hy:y.cls with
   |nil=>exact hne hy
   |cons s r=>
    have:=World.block_lt_of_cell? w0 _ (hc' 0 (I J s.lo) (by rw[hy];rfl))
    simp at this
    omega)
  have HS2:=U (aZ (W1.setCell ⟨T,7,N⟩ (H A0 y.cls.length k0)) A0 y.cls) (by
   by_cases hne:y.cls=[]
   ·rw[hne];exact Sl.nil _ _
   ·exact Sl.grownT hsp1 (dU _ _ _) (fun b o hA _=>HNE.out hne b o hA))
  have HG2:=U (w.grownBy (W1.setCell ⟨T,7,N⟩ (H A0 y.cls.length k0)) (Z T)) (bF (cT (aO w _) H1) (dU _ _ _));have hTl2:T<(W1.setCell ⟨T,7,N⟩ (H A0 y.cls.length k0)).heap.size:=HT2.out.cl.2;have t7:=HT2.out.cl.1;have W2E:∃W2,(W1.setCell ⟨T,7,N⟩ (H A0 y.cls.length k0))=W2:=⟨_,rfl⟩;clear HT1 hsp1 HSP US UB;generalize y.cls=cs at *;go_wp2_with fail;obtain⟨W2,hW2⟩:=W2E;try rw[hW2]at HT2 HS2 HG2 hTl2 t7|-
  clear hW2 f7 e7;have HNE2:=HNE;clear HNE;have HNE:=G (fun(b o:Nat) (hA:A0=Z ⟨b,o,N⟩) (_:b<W2.heap.size) (hne:cs≠[])=>HNE2.out hne b o hA);go_wp2_with fail
  go_loopw [20] (fun u wr=>∃i:Nat,i<=cs.length/\u=I J i/\eJ wr T c (H A0 cs.length k0) (f_ (cs.take i))/\W2.grownBy wr (Z T))
   (fun u _=>cs.length-(intOf u).toNat)
  case atStart=>exact⟨0,Nat.zero_le _,rfl,HT2.out,aO _ _⟩
  obtain⟨i,hi,rfl,hT,hgr⟩:=hrel;have HTr:=G hT;clear hT;obtain⟨t7,tl⟩:=HTr.out.cl;by_cases hlt:i<cs.length
  ·obtain⟨b,o,hA,hbl,hcell⟩:=HS2.out.at hlt
   obtain⟨c1',c2',c3'⟩:=hcell i hlt;have hbT:b≠T:=HNE.out _ _ hA hbl (by rintro rfl;simp at hlt);have c1:=hgr.cell c1' (by simpa using hbT);have c2:=hgr.cell c2' (by simpa using hbT);have c3:=hgr.cell c3' (by simpa using hbT);have hbl2:b<wr.heap.size:=Nat.lt_of_lt_of_le hbl hgr.size;have LS:=G (zAv hlt);subst hA;clear hcell c1' c2' c3';generalize cs[i].lo=lo at *;generalize cs[i].hi=hh at *;generalize cs[i].val=vv at *;obtain⟨A3,n3,a3,B3,m3,b3,M3,k3',f3,hX3,hM3,hTF3⟩:=HTr.out.ex;have t8:wr.cell? ⟨T,8,N⟩=Z (I J (f_ (cs.take i))):=hX3.c 8 rfl;have f8:=hX3.free 8;clear hX3 hM3 hTF3;have HPT:=G (fun(v:Int)=>show eJ (wr.setCell ⟨T,8,N⟩ (I J v)) T c (H (Z ⟨b,o,N⟩) cs.length k0) v from HTr.out.put (dU _ _ _) (fun _=>by intro h;cases h) (fun cs h A n a B m b M e=>by subst e;exact h.set 8 _));generalize f_ (cs.take i)=l0 at *;have hne8:¬T=wr.heap.size:=by omega
   have al:∀(W:Wv)(o:Obj),By W (W.alloc o).drew:=fun W o=>(ba _ _).drew
   have HGA:=G (fun v=>show W2.grownBy ((wr.setCell ⟨T,8,N⟩ v).alloc (.cells #[I J lo,I J hh,I J vv] 123)).drew (Z T)from cT (bF hgr (dU _ _ _)) (al _ _));have HPA:=G (fun v=>(HPT.out v).below (al _ (.cells #[I J lo,I J hh,I J vv] 123)));clear HTr HPT hgr al;go_wp2_with fail;go_region
   all_goals
    go_wp2_with fail;go_roundw
    case rel=>
     refine⟨i+1,by omega,by go_num,?_,HGA.out _⟩;rw[LS.out];first|(have e:(if l0<vv then vv else l0)=max l0 vv:=by { split<;>omega };rw[<-e];exact HPA.out _)|exact HPA.out _|(rw[Int.max_comm];exact HPA.out _)
    simp[intOf];omega
  obtain rfl:i=cs.length:=by omega
  have hTT:=HTr.out;rw[List.take_length]at hTT;have HTT:=G hTT;clear hTT HTr;go_wp2_with fail;go_ret;refine⟨rfl,⟨_,_,HTT.out,?_⟩,bF HG2.out hgr⟩;by_cases hne:cs=[]
  ·rw[hne];exact Sl.nil _ _
  exact Sl.grownT HS2.out hgr (fun b o hA hb=>HNE.out _ _ hA hb hne)
 have h1:(er==0)=false:=by simpa using he
 obtain rfl:=UB.out he;have HT2:=U (eJ W1 T c (H N ([]:List Spn).length 0) (f_ (([]:List Spn).take 0))) HT1.out;have HS2:=U (aZ W1 N []) (Sl.nil _ _);have HG2:=U (w.grownBy W1 (Z T)) (cT (aO w _) H1);have t7:=HT2.out.cl.1;clear HT1 HSP US UB;go_wp2_with fail;go_loopw [20] (fun u wr=>u=I J 0/\wr=W1) (fun u _=>0-(intOf u).toNat)
 case atStart=>exact⟨rfl,rfl⟩
 obtain⟨rfl,rfl⟩:=hrel;go_wp2_with fail;go_ret;exact⟨rfl,⟨_,_,HT2.out,HS2.out⟩,HG2.out⟩
end
section
open Go.RowKit
theorem YT{P:Program}(w:Wv)(dT sT ty elem:TypeId)(hu:P.underlying dT=Z (.slice elem))(hsz:(P.info? elem).map (·.size)=Z 1)
  (dp sp:Oa) (dLen dCap sLen sCap:Nat) (g off:Nat) (cur:Lv) (t:TypeId) (hg:Box w g t cur) (cs:Lv) (hn:cs.length=Nat.min sLen dLen)
  (hpos:0<cs.length->dp=Z ⟨g,off,N⟩/\∃ad,sp=Z ad/\∀j v,cs[j]?=Z v->w.cell? (ad.add j)=Z v) (hfit:off+cs.length<=cur.length) (h1:∀v∈cs,v.oneCell'=true) :
  ∃w',(Builtin.copy_ #[dT,sT] ty #[H dp dLen dCap,H sp sLen sCap]).run P w=.ok (goInt cs.length) w'/\Box w' g t (splice cur off cs)/\w.grownBy w' (Z g):=by
 by_cases h0:cs.length=0
 ·obtain rfl:cs=[]:=List.eq_nil_of_length_eq_zero h0
  exact⟨w,run_copy_none (P:=P) w dT sT ty elem dp sp dLen dCap sLen sCap hu hsz (by simpa using hn.symm),by simpa[splice]using hg,aO w _⟩
 obtain⟨rfl,ad,rfl,hsrc⟩:=hpos (by omega);refine⟨_,run_copy_row (P:=P) w dT sT ty elem g off dLen dCap ad sLen sCap cur.toArray t cs hu hsz hg hn hsrc (by simpa using hfit) h1,?_,?_⟩
 ·simpa[splice,Box]using setRow_heap w g _ _ t _ hg
 exact⟨rfl,rfl,rfl,by simp[World.setRow],fun k hk hne=>setRow_other w g k _ (fun e=>hne (by rw[e]))⟩
theorem GO{P:Program}{ops:Array Oper}{Q:Exit->Act->Wv->Prop}{md:Region.Mode}{S:Wv->Prop}{i:Nat}{oi:Oper}{fuel:Nat}{listed:Array Bool}{a:Act}{w:Wv}(d:Option Tmp)(hi:ops[i]?=Z oi)(hd:oi.dst=d)
  (hr:Region.ready md ops listed=[i]) (hw:Region.wanted oi (yielded ops a.tmps)=true) (o s:Operand) (dT sT:TypeId)
  (ho:oi.op=.call { callee:=.builtin .copy,args:=#[o,s],argTypes:=#[dT,sT] }) (elem:TypeId) (hu:P.underlying dT=Z (.slice elem)) (hsz:(P.info? elem).map (·.size)=Z 1)
  (dp sp:Oa) (dLen dCap sLen sCap:Nat) (hdv:a.eval o=H dp dLen dCap) (hsv:a.eval s=H sp sLen sCap)
  (g off:Nat) (cur:Lv) (t:TypeId) (hg:Box w g t cur) (cs:Lv) (hn:cs.length=Nat.min sLen dLen)
  (hpos:0<cs.length->dp=Z ⟨g,off,N⟩/\∃ad,sp=Z ad/\∀j v,cs[j]?=Z v->w.cell? (ad.add j)=Z v)
  (hfit:off+cs.length<=cur.length) (h1:∀v∈cs,v.oneCell'=true)
  (h:∀w',Box w' g t (splice cur off cs)->w.grownBy w' (Z g)->S w'/\wpAnyH P md ops Q S fuel (listed.setIfInBounds i true) (a.put d (goInt cs.length)) w'):wpAnyH P md ops Q S (fuel+1) listed a w:=by
 subst hd;refine mT hi hr hw (fun K hK=>?_);obtain⟨w',hrun,r1,r2⟩:=YT (P:=P) w dT sT oi.type elem hu hsz dp sp dLen dCap sLen sCap g off cur t hg cs hn hpos hfit h1;unfold Oper.wp;simp[execOp,ho,resolve,invoke,builtin,hdv,hsv,hrun,Result.andThen];have:=h w' r1 r2;exact hK.out _ _ this.1 (fun _=>this.2)
theorem Row.box{w:Wv}{b off:Nat}{e:TypeId}{pre post:Lv}{d:Li}(h:Row w b off e pre post d):Box w b e (pre++d.map (Value.int .i64)++post):=h.2
theorem Row.of_box{w:Wv}{b off:Nat}{e:TypeId}{pre post:Lv}{d:Li}(hl:pre.length=off)(h:Box w b e (pre++d.map (Value.int .i64)++post)):Row w b off e pre post d:=⟨hl,h⟩
theorem Row.ints{w:Wv}{b off:Nat}{e:TypeId}{pre post:Lv}{d:Li}(h:Row w b off e pre post d):aA w (Z ⟨b,off,N⟩) d:=by
 intro _;refine⟨b,off,rfl,fun j u hu=>?_⟩
 obtain⟨z,hz,rfl⟩:∃z,d[j]?=Z z/\u=I J z:=by
  rw[List.getElem?_map]at hu;cases hz:d[j]? with
  |none=>rw[hz]at hu;cases hu
  |some z=>rw[hz]at hu;injection hu with hu;exact⟨z,rfl,hu.symm⟩
 exact h.cell hz
theorem aA.take{w:Wv}{A:Oa}{t:Li}(h:aA w A t)(k:Nat):aA w A (t.take k):=by
 intro hne;have hne2:t.map (Value.int .i64)≠[]:=by
  intro e;have:t=[]:=by simpa using e
  subst this;simp at hne
 obtain⟨b,o,hA,hc⟩:=h hne2;refine⟨b,o,hA,fun j u hu=>hc j u ?_⟩;rw[List.map_take,List.getElem?_take]at hu;split at hu
 ·exact hu
 cases hu
theorem Row.grown{w w':Wv}{b off:Nat}{e:TypeId}{pre post:Lv}{d:Li}{r:Option Nat}(h:Row w b off e pre post d)(hg:w.grownBy w' r)(hne:Z b≠r):Row w' b off e pre post d:=h.keep (hg.block b h.lt hne)
theorem SR{pre post:Lv}{part lft r:Li}{x:Int}{off:Nat}(hl:pre.length=off):
  (splice (pre++(part++lft++x::r).map (Value.int .i64)++post) (off+part.length+1) (lft.map (Value.int .i64))).set (off+part.length) (I J x)=pre++(part++[x]++lft++r).map (Value.int .i64)++post:=by
 subst hl;obtain⟨h,tl,htl⟩:∃h tl,lft++[x]=h::tl:=by cases lft with|nil=>exact⟨x,[],rfl⟩|cons y l=>exact⟨y,l++[x],rfl⟩
 have hlen:tl.length=lft.length:=by have:=congrArg List.length htl;simp at this;omega
 have e1:pre++(part++lft++x::r).map (Value.int .i64)++post=(pre++part.map (Value.int .i64))++((I J h)::tl.map (Value.int .i64))++(r.map (Value.int .i64)++post):=by
  have:part++lft++x::r=part++(h::tl)++r:=by rw[<-htl];simp
  rw[this];simp
 have hP:(pre++part.map (Value.int .i64)).length=pre.length+part.length:=by simp
 have e4:pre++(part++[x]++lft++r).map (Value.int .i64)++post=(pre++part.map (Value.int .i64))++(I J x::(lft.map (Value.int .i64)++(r.map (Value.int .i64)++post))):=by simp
 rw[e1,e4,<-hP];generalize pre++part.map (Value.int .i64)=P at *;unfold splice;have e2:(P++(Value.int .i64 h::tl.map (Value.int .i64))++(r.map (Value.int .i64)++post)).take (P.length+1)=P++[Value.int .i64 h]:=by
  rw[List.append_assoc,List.take_append,List.take_of_length_le (by omega)];congr 1;rw[show P.length+1-P.length=1 by omega];simp
 have e3:(P++(Value.int .i64 h::tl.map (Value.int .i64))++(r.map (Value.int .i64)++post)).drop (P.length+1+(lft.map (Value.int .i64)).length)=r.map (Value.int .i64)++post:=by
  have:(P++(Value.int .i64 h::tl.map (Value.int .i64))).length=P.length+1+(lft.map (Value.int .i64)).length:=by simp[hlen];omega
  rw[<-this,List.drop_left]
 rw[e2,e3,List.append_assoc,List.set_append_right _ _ (Nat.le_refl _),Nat.sub_self];rfl
end
namespace Mtc
open Go.RowKit
section
variable {E:Type}{cl:Int->Int}{ent:Li->Option (List E)}{imp:Int->List E}
def sz(ent:Li->Option (List E))(t:Li):Nat->Nat
 |0=>0
 |k+1=>if(ent (t.take (k+1))).isSome=true then k+1 else sz ent t k
theorem sz_le(t:Li)(k:Nat):sz ent t k<=k:=by
 induction k with
 |zero=>exact Nat.le_refl _
 |succ k ih=>unfold sz;split<;>omega
theorem sz_some{t:Li}{k:Nat}(h:0<sz ent t k):(ent (t.take (sz ent t k))).isSome=true:=by
 induction k with
 |zero=>simp[sz]at h
 |succ k ih=>
  unfold sz at h|-;split
  ·next h1=>exact h1
  next h1=>rw[if_neg h1]at h;exact ih h
theorem sz_hit{t:Li}{k:Nat}(h:(ent (t.take (k+1))).isSome=true):sz ent t (k+1)=k+1:=by unfold sz;rw[if_pos h]
theorem sz_miss{t:Li}{k:Nat}(h:¬(ent (t.take (k+1))).isSome=true):sz ent t (k+1)=sz ent t k:=by
 conv=>lhs;unfold sz
 rw[if_neg h]
theorem sz_min{t:Li}{L:Nat}(hL:∀zs:Li,L<zs.length->ent zs=N):∀k,k<=t.length->sz ent t k=sz ent t (min L k)
 |0,_=>by rw[Nat.min_zero]
 |k+1,hk=>by
  by_cases h:k+1<=L
  ·rw[Nat.min_eq_right h]
  have hn:ent (t.take (k+1))=N:=hL _ (by rw[List.length_take];omega);rw[sz_miss (by rw[hn];simp),sz_min hL k (by omega)];congr 1;omega
def grow(cl:Int->Int)(ent:Li->Option (List E)):Li->Li->Int->Li->Li×Li
 |part,left,_,[]=>(part,left)
 |part,left,hi,x::r=>
  if cl x=0 then(part,left++x::r)
  else if(ent (part++[x])).isSome=true/\hi<cl x then grow cl ent (part++[x]) left hi r
  else grow cl ent part (left++[x]) (max hi (cl x)) r
theorem grow_len:∀(r part left:Li)(hi:Int),(grow cl ent part left hi r).1.length+(grow cl ent part left hi r).2.length=part.length+left.length+r.length
 | [],part,left,hi=>by simp[grow]
 |x::r,part,left,hi=>by
  unfold grow;split
  ·simp;omega
  split
  ·rw[grow_len r];simp;omega
  rw[grow_len r];simp;omega
theorem grow_part:∀(r part left:Li)(hi:Int),part.length<=(grow cl ent part left hi r).1.length
 | [],part,left,hi=>by simp[grow]
 |x::r,part,left,hi=>by
  unfold grow;split
  ·exact Nat.le_refl _
  split
  ·have:=grow_part r (part++[x]) left hi;simp at this;omega
  exact grow_part r part (left++[x]) _
theorem grow_top:∀(r part left:Li)(hi:Int),(∀x,cl x<=hi)->grow cl ent part left hi r=(part,left++r)
 | [],part,left,hi,_=>by simp[grow]
 |x::r,part,left,hi,h=>by
  unfold grow;split
  ·rfl
  rw[if_neg (by rintro⟨_,g⟩;have:=h x;omega),show max hi (cl x)=hi from by have:=h x;omega,grow_top r part _ hi h];simp
theorem grow_stop{part left r:Li}{hi x:Int}(h:cl x=0):grow cl ent part left hi (x::r)=(part,left++x::r):=by
 conv=>lhs;unfold grow
 rw[if_pos h]
theorem grow_take{part left r:Li}{hi x:Int}(h:¬cl x=0)(h1:(ent (part++[x])).isSome=true)(h2:hi<cl x):grow cl ent part left hi (x::r)=grow cl ent (part++[x]) left hi r:=by
 conv=>lhs;unfold grow
 rw[if_neg h,if_pos ⟨h1,h2⟩]
theorem grow_leave{part left r:Li}{hi x:Int}(h:¬cl x=0)(h1:¬(ent (part++[x])).isSome=true\/cl x<=hi):grow cl ent part left hi (x::r)=grow cl ent part (left++[x]) (max hi (cl x)) r:=by
 conv=>lhs;unfold grow
 rw[if_neg h,if_neg];rintro⟨g1,g2⟩;rcases h1 with h1|h1
 ·exact h1 g1
 omega
def matched(cl:Int->Int)(ent:Li->Option (List E))(t:Li):Li×Li×Bool:=
 if sz ent t t.length=0 then(t.take 1,t.drop 1,false)
 else((grow cl ent (t.take (sz ent t t.length)) [] 0 (t.drop (sz ent t t.length))).1,(grow cl ent (t.take (sz ent t t.length)) [] 0 (t.drop (sz ent t t.length))).2,true)
theorem matched_len{t:Li}(h:t≠[]):(matched cl ent t).2.1.length<t.length/\(matched cl ent t).1.length+(matched cl ent t).2.1.length=t.length:=by
 have hp:0<t.length:=List.length_pos_iff.2 h;unfold matched;split
 ·simp only[List.length_take,List.length_drop];omega
 next hn=>
 have h1:=grow_len (cl:=cl) (ent:=ent) (t.drop (sz ent t t.length)) (t.take (sz ent t t.length)) [] 0;have h2:=grow_part (cl:=cl) (ent:=ent) (t.drop (sz ent t t.length)) (t.take (sz ent t t.length)) [] 0;have h3:=sz_le (ent:=ent) t t.length;simp only[List.length_take,List.length_drop,List.length_nil]at h1 h2;dsimp only;omega
def ofPart(ent:Li->Option (List E))(imp:Int->List E)(p:Li)(known:Bool):List E:=if known=true then(ent p).getD []else imp (p.getD 0 0)
def elemsF(cl:Int->Int)(ent:Li->Option (List E))(imp:Int->List E):Nat->Li->List E
 |0,_=>[]
 |_+1,[]=>[]
 |f+1,x::t=>ofPart ent imp (matched cl ent (x::t)).1 (matched cl ent (x::t)).2.2++elemsF cl ent imp f (matched cl ent (x::t)).2.1
theorem elemsF_more:∀(f g:Nat)(t:Li),t.length<=f->t.length<=g->elemsF cl ent imp f t=elemsF cl ent imp g t
 |0,0,t,_,_=>rfl
 |0,g+1,t,h,_=>by
  obtain rfl:t=[]:=List.length_eq_zero_iff.1 (by omega);rfl
 |f+1,0,t,_,h=>by
  obtain rfl:t=[]:=List.length_eq_zero_iff.1 (by omega);rfl
 |f+1,g+1,[],_,_=>rfl
 |f+1,g+1,x::t,h1,h2=>by
  have h:=(matched_len (cl:=cl) (ent:=ent) (t:=x::t) (by simp)).1;unfold elemsF;rw[elemsF_more f g _ (by omega) (by omega)]
def elems(cl:Int->Int)(ent:Li->Option (List E))(imp:Int->List E)(t:Li):List E:=elemsF cl ent imp t.length t
theorem elems_nil:elems cl ent imp []=[]:=rfl
theorem elems_step{t:Li}(h:t≠[]):elems cl ent imp t=ofPart ent imp (matched cl ent t).1 (matched cl ent t).2.2++elems cl ent imp (matched cl ent t).2.1:=by
 cases t with
 |nil=>exact absurd rfl h
 |cons x t=>
  have hl:=(matched_len (cl:=cl) (ent:=ent) (t:=x::t) (by simp)).1;show ofPart ent imp (matched cl ent (x::t)).1 (matched cl ent (x::t)).2.2++elemsF cl ent imp t.length (matched cl ent (x::t)).2.1=_
  rw[elemsF_more (cl:=cl) (ent:=ent) (imp:=imp) t.length (matched cl ent (x::t)).2.1.length (matched cl ent (x::t)).2.1 (by simp at hl;omega) (Nat.le_refl _)];rfl
end
end Mtc
namespace Mtc
open Go.RowKit
section
variable {E:Type}{cl:Int->Int}{ent:Li->Option (List E)}
structure MG(cl:Int->Int)(ent:Li->Option (List E))(t:Li)(z:Nat)(d part lft:Li)(i:Nat)(hi:Int):Prop where
 eq:d=part++lft++t.drop i
 at_:part.length+lft.length=i
 le:i<=t.length
 pos:0<part.length
 inv:grow cl ent part lft hi (t.drop i)=grow cl ent (t.take z) [] 0 (t.drop z)
 is:(ent part).isSome=true
variable {t d part lft:Li}{z i:Nat}{hi:Int}
theorem MG.start(h1:0<z)(h2:z<=t.length)(h3:(ent (t.take z)).isSome=true):MG cl ent t z t (t.take z) [] z 0:=
 ⟨by rw[List.append_nil,List.take_append_drop],by simp;omega,h2,by rw[List.length_take];omega,rfl,h3⟩
theorem MG.len(h:MG cl ent t z d part lft i hi):d.length=t.length:=by
 have:=h.at_;have:=h.le;rw[h.eq,List.length_append,List.length_append,List.length_drop];omega
theorem MG.get(h:MG cl ent t z d part lft i hi)(hi2:i<t.length)(hd:i<d.length):d[i]=t[i]:=by
 have e:d[i]?=t[i]?:=by
  rw[h.eq,List.getElem?_append_right (by rw[List.length_append];have:=h.at_;omega),List.length_append,h.at_,Nat.sub_self,List.getElem?_drop,Nat.add_zero]
 rw[List.getElem?_eq_getElem hi2,List.getElem?_eq_getElem hd]at e;injection e
theorem MG.drop(_:MG cl ent t z d part lft i hi)(hi2:i<t.length):t.drop i=t[i]::t.drop (i+1):=List.drop_eq_getElem_cons hi2
theorem MG.leave(h:MG cl ent t z d part lft i hi)(hi2:i<t.length)(h0:¬cl t[i]=0)(h1:¬(ent (part++[t[i]])).isSome=true\/cl t[i]<=hi){hi':Int}(hh:hi'=max hi (cl t[i])):MG cl ent t z d part (lft++[t[i]]) (i+1) hi':=by
 subst hh;refine⟨?_,by have:=h.at_;simp;omega,hi2,h.pos,?_,h.is⟩
 ·rw[h.eq,h.drop hi2];simp
 have:=h.inv;rw[h.drop hi2,grow_leave h0 h1]at this;exact this
theorem MG.take(h:MG cl ent t z d part lft i hi)(hi2:i<t.length)(h0:¬cl t[i]=0)(h1:(ent (part++[t[i]])).isSome=true)(h2:hi<cl t[i]):MG cl ent t z (part++[t[i]]++lft++t.drop (i+1)) (part++[t[i]]) lft (i+1) hi:=by
 refine⟨rfl,by have:=h.at_;simp;omega,hi2,by simp,?_,h1⟩;have:=h.inv;rw[h.drop hi2,grow_take h0 h1 h2]at this;exact this
theorem MG.stop(h:MG cl ent t z d part lft i hi)(hi2:i<t.length)(h0:cl t[i]=0):grow cl ent (t.take z) [] 0 (t.drop z)=(part,lft++t.drop i):=by
 rw[<-h.inv,h.drop hi2,grow_stop h0]
theorem MG.fin(h:MG cl ent t z d part lft i hi)(h1:i=t.length\/∀x,cl x<=hi):grow cl ent (t.take z) [] 0 (t.drop z)=(part,lft++t.drop i):=by
 rw[<-h.inv];rcases h1 with h1|h1
 ·subst h1
  rw[List.drop_length,List.append_nil];rfl
 exact grow_top _ _ _ _ h1
end
end Mtc
section
open Go.RowKit Go.Maps Go.WideMaps
def dJ(c:Col)(x:Int):List Elt:=if 0<=x/\x<=1114111 then [⟨c.base+x/32768,c.second,c.third,false⟩,⟨32768+x%32768,0,0,false⟩]else []
def uU(l:List Elt)(w:Wv)(e:Ending)(w':Wv):Prop:=∃E d,e=.returned (H E l.length d)/\cJ w' E l/\By w w'
theorem eJ.cells{w:Wv}{T:Nat}{c:Col}{cl:Value}{top:Int}(h:eJ w T c cl top):w.cell? ⟨T,2,N⟩=Z (I J c.base)/\w.cell? ⟨T,3,N⟩=Z (I J c.second)/\w.cell? ⟨T,4,N⟩=Z (I J c.third)/\w.cell? ⟨T,6,N⟩=Z (I J (dA c.ents))/\w.cell? ⟨T,8,N⟩=Z (I J top):=by
 obtain⟨A,n,a,B,m,b,M,k,f,hX,_⟩:=h.ex;exact⟨hX.c 2 rfl,hX.c 3 rfl,hX.c 4 rfl,hX.c 6 rfl,hX.c 8 rfl⟩
theorem OQ(T:Nat)(c:Col)(cl:Value)(top:Int)(x:Int)(w:Wv)(hT:eJ w T c cl top)(hb:1<=c.base/\c.base<=65502):
  Calls prog 169 #[.pointer (Z ⟨T,0,N⟩),I J x] w (uU (dJ c x) w):=by
 obtain⟨q2,q3,q4,_,_⟩:=hT.cells;have V:=G (fun W=>lY x W);clear hT;by_cases hx:0<=x/\x<=1114111
 ·have hv:inR 0 1114111 x=true:=iO hx.1 hx.2
  have HI:=U (dJ c x=[⟨c.base+x/32768,c.second,c.third,false⟩,⟨32768+x%32768,0,0,false⟩]) (if_pos hx);generalize dJ c x=l at *;obtain rfl:=HI.out;rw[hv]at V;clear hv HI;generalize c.base=b at *;generalize c.second=s at *;generalize c.third=t at *;go_enter func169,ntmps169;go_wp2_with fail;with_reducible refine(V.out _).mono ?_
  rintro e w1 ⟨rfl,rfl⟩;go_wp2_with fail;go_region
  all_goals
   go_wp2_with fail;go_ret;exact⟨_,_,rfl,bU _ _ _ rfl,((Below.refl _ _).drew).alloc (Nat.le_refl _) _⟩
 have hv:inR 0 1114111 x=false:=by rw[lN];omega
 have HI:=U (dJ c x=[]) (if_neg hx);generalize dJ c x=l at *;obtain rfl:=HI.out;rw[hv]at V;clear hv HI;go_enter func169,ntmps169;go_wp2_with fail;with_reducible refine(V.out _).mono ?_
 rintro e w1 ⟨rfl,rfl⟩;go_wp2_with fail;go_ret;exact⟨N,0,rfl,Sl.nil _ _,Below.refl _ _⟩
def uV(mt:Li×Li×Bool)(ent:Li->Option (List Elt))(imp:Int->List Elt)(b off:Nat)(pre post:Lv)(w:Wv)(e:Ending)(w':Wv):Prop:=
 ∃E m,e=.returned (.tuple #[I J (mt.1.length),H E (Mtc.ofPart ent imp mt.1 mt.2.2).length m,.bool mt.2.2])/\cJ w' E (Mtc.ofPart ent imp mt.1 mt.2.2)/\Row w' b off 3 pre post (mt.1++mt.2.1)/\w.grownBy w' (Z b)
def qW(cl:Int->Int)(ent:Li->Option (List Elt))(imp:Int->List Elt)(b off:Nat)(pre post:Lv)(t:Li)(w:Wv)(e:Ending)(w':Wv):Prop:=uV (Mtc.matched cl ent t) ent imp b off pre post w e w'
theorem zB{E:Type}{cl:Int->Int}{ent:Li->Option (List E)}{t:Li}(h:Mtc.sz ent t t.length=0):Mtc.matched cl ent t=(t.take 1,t.drop 1,false):=if_pos h
theorem zC{E:Type}{cl:Int->Int}{ent:Li->Option (List E)}{t:Li}{z:Nat}(h:Mtc.sz ent t t.length=z)(hz:0<z):Mtc.matched cl ent t=((Mtc.grow cl ent (t.take z) [] 0 (t.drop z)).1,(Mtc.grow cl ent (t.take z) [] 0 (t.drop z)).2,true):=by
 unfold Mtc.matched;rw[if_neg (by omega),h]
theorem OY:(prog.info? 3).map (·.size)=Z 1:=by kernel_rfl
structure uR(T:Nat)(c:Col)(cs:List Spn)(A0:Oa)(k0:Nat)(b:Nat)(w0:Wv):Prop where
 tab:eJ w0 T c (H A0 cs.length k0) (f_ cs)
 sp:aZ w0 A0 cs
 hb:w0.heap.size<=b
 asc:Asc cs
 csz:cs.length<=1099511627776
 ent:∀x∈c.ents,1<=x.codes.length/\x.codes.length<=8
 base:1<=c.base/\c.base<=65502
end
section
open Go.RowKit
def bV(A:Oa)(a lo:Nat):Oa:=if a=lo then A else A.map (fun x=>x.add lo)
theorem aA.sub{w:Wv}{A:Oa}{t:Li}(h:aA w A t){a lo hi:Nat}(h1:lo<=hi)(h2:hi<=t.length)(h3:t.length<=a):aA w (bV A a lo) ((t.take hi).drop lo):=by
 unfold bV;by_cases e:a=lo
 ·rw[if_pos e]
  have:(t.take hi).drop lo=[]:=List.drop_of_length_le (by simp;omega);rw[this];exact Sl.nil _ _
 rw[if_neg e];by_cases hl:lo<hi
 ·obtain⟨b,o,rfl,hc⟩:=h.at (k:=lo) (by omega)
  intro _;refine⟨b,o+lo,?_,fun j u hu=>?_⟩
  ·simp only[Option.map_some,Addr.add]
   split
   ·next h0=>subst h0;rfl
   rfl
  have hj:j<hi-lo:=by
   have:=(List.getElem?_eq_some_iff.1 hu).1;simp at this;omega
  have hu2:u=I J (t[lo+j]'(by omega)):=by
   rw[List.getElem?_map,List.getElem?_drop,List.getElem?_take,if_pos (by omega),List.getElem?_eq_getElem (by omega)]at hu;simpa using hu.symm
  rw[hu2,Nat.add_assoc];exact hc (lo+j) (by omega)
 have:(t.take hi).drop lo=[]:=List.drop_of_length_le (by simp;omega);rw[this];exact Sl.nil _ _
theorem nN(A:Oa)(n a lo hi:Nat)(h1:lo<=hi)(h2:hi<=a)(W:Wv):(Instr.sliceAt 49 (H A n a) (Z (I J lo)) (Z (I J hi)) N).run prog W=.ok (H (bV A a lo) (hi-lo) (a-lo)) W:=by
 have hu:=underlying49;have he:prog.elem 49=3:=by kernel_rfl
 obtain⟨i,hi',_,hs,_⟩:=info_parts aM;rw[run_sliceAt_slice (h:=by rw[he];exact hu),run_slice_lh (ht:=by rw[he];exact hu) (h0:=by omega) (h1:=by omega) (h2:=by omega)];simp[sizeOf,typeInfo,he,hi',hs,sliced,bV]
theorem t_(A:Oa)(n a hi:Nat)(h2:hi<=a)(W:Wv):(Instr.sliceAt 49 (H A n a) N (Z (I J hi)) N).run prog W=.ok (H (bV A a 0) (hi-0) (a-0)) W:=by
 have hu:=underlying49;have he:prog.elem 49=3:=by kernel_rfl
 obtain⟨i,hi',_,hs,_⟩:=info_parts aM;rw[run_sliceAt_slice (h:=by rw[he];exact hu),run_slice_h (ht:=by rw[he];exact hu) (h0:=by omega) (h2:=by omega)];simp[sizeOf,typeInfo,he,hi',hs,sliced,bV]
theorem qB(A:Oa)(n a lo:Nat)(h1:lo<=n)(W:Wv):(Instr.sliceAt 49 (H A n a) (Z (I J lo)) N N).run prog W=.ok (H (bV A a lo) (n-lo) (a-lo)) W:=by
 have hu:=underlying49;have he:prog.elem 49=3:=by kernel_rfl
 obtain⟨i,hi',_,hs,_⟩:=info_parts aM;rw[run_sliceAt_slice (h:=by rw[he];exact hu),run_slice_l (ht:=by rw[he];exact hu) (h0:=by omega) (h1:=by omega)];simp[sizeOf,typeInfo,he,hi',hs,sliced,bV]
end
end Go.Proofs.YtpfbnikbebccjaaGreatDoor
