import Derived.Test.YtkhmjidaeliccaaGreatDoorS04
set_option maxRecDepth 100000
set_option maxHeartbeats 51200000
namespace Go.Proofs.YtkhmjidaeliccaaGreatDoor
open Option renaming none->N,some->Z
open Value renaming int->I,slice->H
open IntKind renaming i64->J
open Go.Proofs.Tryz
section
open Go.RowKit
def StF(ms:List Mp):Prop:=∀i j,(hi:i<ms.length)->(hj:j<ms.length)->i<j->ms[i].frm<ms[j].frm
theorem AE(f:Int)(va:Value)(t:ByteArray)(c:Int)(w:Wv):Calls prog 165 #[.agg #[I J f,va,.string t],I J c] w (aU (dM f c) w):=by
 have C:=G (λW=>mA f c W);generalize dM f c=r at *;go_enter func165,ntmps165;go_wp2_with fail;refine(C.o _).mono ?_
 rintro e a ⟨rfl,rfl⟩;go_wp2;go_ret;exact⟨rfl,ba _ _⟩
structure rL(ms:List Mp)(c:Int)(i:Nat)(f:Bool):Prop where
 le:i<=ms.length
 lo:∀t,(ht:t<ms.length)->t<i->ms[t].frm<c
 hi:∀t,(ht:t<ms.length)->i<=t->c<=ms[t].frm
 fd:f=decide (∃h:i<ms.length,ms[i].frm=c)
def ID(ms:List Mp)(c:Int)(w:Wv)(e:Ending)(w':Wv):Prop:=∃(i:Nat)(f:Bool),e=.returned (.tuple #[I J i,.bool f])/\rL ms c i f/\By w w'
theorem JU(A:Oa)(n k:Nat)(ms:List Mp)(c:Int)(w:Wv)(hA:Mps w A ms)(hn:ms.length=n)(hbig:n<=1048576)(hasc:StF ms):
  Calls prog 164 #[H A n k,I J c,.func (.func 165) #[] #[]] w (ID ms c w):=by
 subst hn;have F:=G hasc;clear hasc;go_enter func164,ntmps164;go_wp2
 go_loopw [9,10] (λu v wr=>∃i j:Nat,i<=j/\j<=ms.length/\u=I J i/\v=I J j/\(∀t,(ht:t<ms.length)->t<i->ms[t].frm<c)/\(∀t,(ht:t<ms.length)->j<=t->c<=ms[t].frm)/\By w wr)
  (λu v _=>(intOf v).toNat-(intOf u).toNat)
 case atStart=>exact⟨0,ms.length,Nat.zero_le _,Nat.le_refl _,rfl,rfl,λt _ h=>O,λt K V=>O,Below.refl _ _⟩
 obtain⟨i,j,X,hj,rfl,rfl,x,s,l⟩:=hrel;have q:=G x;have p:=G s;clear x s;by_cases hlt:i<j
 ·obtain⟨h,hh,K,V,y⟩:∃h:Nat,((i:Int)+(j:Int))/2=(h:Int)/\i<=h/\h<j/\h<ms.length:=⟨(i+j)/2,O,O,O,O⟩
  obtain⟨b,o,rfl,_,a⟩:=(hA.below l).at y;obtain⟨D,d,R,S,T,_,_⟩:=a h y;clear a;have P:=G (λt(ht:t<ms.length)(hth:t<h)=>F.o t h ht y hth);have z:=G (λt(ht:t<ms.length)(hth:h<t)=>F.o h t y ht hth);generalize hf:ms[h].frm=f at *;generalize ms[h].toq.length=tl at *;generalize ms[h].tag=tg at *;have E:=G hf;have C:=G (λW=>AE f (H D tl d) tg c W);clear hf;by_cases hk:f<c
  ·have r:dM f c=-1:=by unfold dM;rw[if_pos hk]
   rw[r]at C;clear r;go_wp2_with(go_at_call 165;refine(C.o _).mono ?_;rintro e L ⟨rfl,m⟩);go_roundw
   case rel=>
    refine⟨h+1,j,O,hj,oN_,rfl,λt ht g=>?_,p.o,tb l m⟩;by_cases e:t=h
    ·subst e;rw[E.o];exact hk
    have Q:=P.o t ht O;omega
   exact oI_
  have r:0<=dM f c:=by unfold dM;rw[if_neg hk];split<;>omega
  generalize dM f c=sc at *;go_wp2_with(go_at_call 165;refine(C.o _).mono ?_;rintro e L ⟨rfl,m⟩);go_roundw
  case rel=>
   refine⟨i,h,K,O,rfl,rfl,q.o,λt ht g=>?_,tb l m⟩;by_cases e:t=h
   ·subst e;rw[E.o];omega
   have Q:=z.o t ht O;omega
  exact oI_
 obtain rfl:i=j:=O;by_cases hend:i<ms.length
 ·obtain⟨b,o,rfl,_,a⟩:=(hA.below l).at hend
  obtain⟨D,d,R,S,T,_,_⟩:=a i hend;clear a;have B:=p.o i hend (Nat.le_refl _)
  have M:=G (show decide (∃h:i<ms.length,ms[i].frm=c)=(dM ms[i].frm c==0) by
   rw[Bool.eq_iff_iff];simp only[decide_eq_true_eq,beq_iff_eq];unfold dM;rw[if_neg O];split
   ·constructor
    ·rintro⟨_,h⟩;omega
    intro h;omega
   ·exact⟨λ_=>rfl,λ_=>⟨hend,O⟩⟩)
  clear B;generalize ms[i].frm=f at *;generalize ms[i].toq.length=tl at *;generalize ms[i].tag=tg at *;have C:=G (λW=>AE f (H D tl d) tg c W);generalize dM f c=sc at *;go_wp2_with(go_at_call 165;refine(C.o _).mono ?_;rintro e L ⟨rfl,m⟩);go_ret2;refine⟨i,_,rfl,⟨hj,q.o,p.o,?_⟩,tb l m⟩;exact M.o.symm
 go_wp2_with fail;go_ret2;refine⟨i,_,rfl,⟨hj,q.o,p.o,?_⟩,l⟩;simp[hend]
theorem pI{ms:List Mp}{compat:Bool}{c:Int}{i:Nat}(hs:StF ms)(hi:i<ms.length)(h:ms[i].frm=c):aD ms compat c=if compat=true\/ms[i].tag.size=0 then Z i else N:=by
 by_cases e:compat=true\/ms[i].tag.size=0
 ·rw[if_pos e]
  unfold aD;rw[List.findIdx?_eq_some_iff_getElem];refine⟨hi,by simpa[h]using e,λj hj=>?_⟩;have:=hs j i O hi hj;simp;intro he;omega
 rw[if_neg e];unfold aD;rw[List.findIdx?_eq_none_iff];intro x hx;obtain⟨j,hj,rfl⟩:=List.getElem_of_mem hx;by_cases g:j=i
 ·subst g;simpa[h]using e
 have:¬ms[j].frm=c:=λhe=>by
  rcases Nat.lt_or_gt_of_ne g with g|g
  ·have:=hs j i hj hi g;omega
  have:=hs i j hi hj g;omega
 simp[this]
theorem yH{ms:List Mp}{compat:Bool}{c:Int}(h:∀i,(hi:i<ms.length)->¬ms[i].frm=c):aD ms compat c=N:=by
 unfold aD;rw[List.findIdx?_eq_none_iff];intro x hx;obtain⟨j,hj,rfl⟩:=List.getElem_of_mem hx;simp[h j hj]
theorem rL.no{ms:List Mp}{c:Int}{i:Nat}{compat:Bool}(hs:StF ms)(h:rL ms c i false):aD ms compat c=N:=by
 refine yH λt ht e=>?_
 have hf:=h.fd;have hn:¬∃g:i<ms.length,ms[i].frm=c:=by simpa using hf.symm
 by_cases g:t<i
 ·have:=h.lo t ht g;omega
 by_cases g2:t=i
 ·subst g2;exact hn ⟨ht,e⟩
 have a:=h.hi i O (Nat.le_refl _);have b:=hs i t O ht O;omega
theorem t_(A0:Oa)(n0 k0:Nat)(A1:Oa)(n1 k1:Nat)(A2:Oa)(n2 k2:Nat)(ms:List Mp)(c:Int)(compat:Bool)(w:Wv)(hA:Mps w A1 ms)(hn:ms.length=n1)(hbig:n1<=1048576)(hasc:StF ms):
  Calls prog 119 #[.agg #[H A0 n0 k0,H A1 n1 k1,H A2 n2 k2],I J c,.bool compat] w (GV (onM ms compat c) w):=by
 subst hn;have K:=G (λW=>nI c W);have D:=G (λW=>GJ c W);have S:=G (λW(hb:By w W)=>JU A1 ms.length k1 ms c W (hA.below hb) rfl hbig hasc);have x:=G hasc;clear hasc;have r:=G (λ(h:4<=Hg.kind c)=>show onM ms compat c=Z (Hg.decomp c)from if_pos h);have q:=G (λ(h:¬4<=Hg.kind c)=>show onM ms compat c=(aD ms compat c).map (toM ms)from if_neg h);generalize onM ms compat c=R at *;generalize Hg.kind c=kc at *;have n:By w (w.alloc (.cells #[H A0 n0 k0,H A1 ms.length k1,H A2 n2 k2] 28)):=ba _ _;have M:(w.alloc (.cells #[H A0 n0 k0,H A1 ms.length k1,H A2 n2 k2] 28)).heap.size=w.heap.size+1:=L;have B:(w.alloc (.cells #[H A0 n0 k0,H A1 ms.length k1,H A2 n2 k2] 28)).cell? ⟨w.heap.size,1,N⟩=Z (H A1 ms.length k1):=L;have t:∃s,(w.alloc (.cells #[H A0 n0 k0,H A1 ms.length k1,H A2 n2 k2] 28))=s:=⟨_,rfl⟩;go_enter func119,ntmps119;go_wp2_with fail;obtain⟨s,k⟩:=t;rw[k]at n M B|-;clear k;refine(K.o _).mono ?_
 rintro e P ⟨rfl,rfl⟩;by_cases h4:4<=kc
 ·obtain rfl:=r.o h4
  clear r q;generalize Hg.decomp c=zs at *;go_wp2_with fail;refine(D.o _).mono ?_
  rintro e P ⟨E,d,rfl,hd,F,hb⟩;go_wp2_with fail;go_ret2;exact⟨E,d,rfl,hd,F,tb n hb⟩
 have p:=G (q.o O);clear r q;go_wp2_with fail;refine(S.o _ n).mono ?_
 rintro e C ⟨i,f,rfl,hs,l⟩;have hb:=tb n l;have Y:C.cell? ⟨w.heap.size,1,N⟩=Z (H A1 ms.length k1):=(l.cell (show w.heap.size<s.heap.size by omega)).trans B;cases f with
 |false=>
  obtain rfl:R=N:=by rw[p.o,hs.no x.o];rfl
  clear hs;go_wp2_with fail;go_ret2;exact⟨.none,0,rfl,Nat.le_refl _,Sl.nil _ _,hb⟩
 |true=>
  obtain⟨hi,v⟩:∃h:i<ms.length,ms[i].frm=c:=by simpa using hs.fd.symm
  have m:=pI (compat:=compat) x.o hi v;have j:toM ms i=ms[i].toq:=by simp[toM,List.getD,hi]
  obtain⟨b,o,rfl,_,g⟩:=(hA.below hb).at hi;obtain⟨E,d,Q,T,V,y,z⟩:=g i hi;clear g hs;have a:=G (p.o.trans (by rw[m]));clear m p;generalize hto2:ms[i].toq=toq at *;generalize ms[i].tag=tg at *;clear hto2;by_cases ht:tg.size=0
  ·have A:tg.toList=[]:=iH ht
   obtain rfl:R=Z toq:=by rw[a.o,if_pos (.inr ht),Option.map_some,j]
   clear j a;go_wp2_with fail;go_ret2;exact⟨E,d,rfl,y,z,hb⟩
  have A:¬tg.toList=[]:=iG ht;have X:tg.toList.isEmpty=false:=by simpa using A
  cases compat with
  |true=>
   obtain rfl:R=Z toq:=by rw[a.o,if_pos (.inl rfl),Option.map_some,j]
   clear j a;go_wp2_with fail;go_ret2;exact⟨E,d,rfl,y,z,hb⟩
  |false=>
   obtain rfl:R=N:=by rw[a.o,if_neg (by simp[ht]),Option.map_none]
   clear j a;go_wp2_with fail;go_ret2;exact⟨.none,0,rfl,Nat.le_refl _,Sl.nil _ _,hb⟩
end
section
open Go.RowKit Go.Maps Go.WideMaps
def iok(z:Int):Prop:=(Lit.int .i64 z).wf=true
def nW(z:Int):Lit:=.int .i64 z
theorem tD{y z:Int}(h:nW y=nW z):y=z:=by injection h
theorem jV:Keyed prog 3:=int_keyed underlying3
theorem jT{z:Int}(h:iok z):keyOf prog 3 (I J z)=Z (nW z):=keyOf_int_mk underlying3 h
abbrev lV(w:Wv)(b n:Nat)(f:Int->Option Value):Prop:=aV prog 3 nW iok w b n f
def eL(s:Nat)(w w':Wv):Prop:=w.heap.size<=w'.heap.size/\∀b,b<w.heap.size->b≠s+1->b≠s+2->b≠s+3->w'.heap[b]?=w.heap[b]?
section
variable {s:Nat}{a b c:Wv}
theorem eL.refl(s:Nat)(a:Wv):eL s a a:=⟨Nat.le_refl _,λ_ _ _ _ _=>rfl⟩
theorem eL.trans(h:eL s a b)(k:eL s b c):eL s a c:=⟨Nat.le_trans h.1 k.1,λq hq h1 h2 h3=>(k.2 q (Nat.lt_of_lt_of_le hq h.1) h1 h2 h3).trans (h.2 q hq h1 h2 h3)⟩
theorem eL.of_below(h:By a b):eL s a b:=⟨h.size,λq hq _ _ _=>h.block q hq⟩
theorem eL.of_grown{u:Nat}(h:a.grownBy b (Z u))(hu:u=s+1\/u=s+2\/u=s+3):eL s a b:=⟨h.size,λq hq h1 h2 h3=>h.block q hq (λe=>by injection e with e;omega)⟩
end
structure MS(A0:Oa)(n0 k0:Nat)(A1:Oa)(n1 k1:Nat)(A2:Oa)(n2 k2:Nat)(s:Nat)(w:Wv)(n:Nat)(mk:Int->Option Int)(cyc lng:Bool):Prop where
 bN:Box w s 28 [H A0 n0 k0,H A1 n1 k1,H A2 n2 k2]
 bC:Box w (s+1) 4 [.bool cyc]
 bL:Box w (s+2) 4 [.bool lng]
 mp:lV w (s+3) n (λc=>(mk c).map (λk=>I J k))
 bM:Box w (s+4) 229 [.map (Z (s+3))]
 bS:Box w (s+5) 147 [.func (.func 181) #[] #[.pointer (Z ⟨s,0,N⟩),.pointer (Z ⟨s+4,0,N⟩),.pointer (Z ⟨s+1,0,N⟩),.pointer (Z ⟨s+5,0,N⟩),.pointer (Z ⟨s+2,0,N⟩)]]
section
variable {A0:Oa}{n0 k0:Nat}{A1:Oa}{n1 k1:Nat}{A2:Oa}{n2 k2:Nat}{s:Nat}{w w':Wv}{n:Nat}{mk:Int->Option Int}{cyc lng:Bool}
theorem MS.below(h:MS A0 n0 k0 A1 n1 k1 A2 n2 k2 s w n mk cyc lng)(hb:By w w'):MS A0 n0 k0 A1 n1 k1 A2 n2 k2 s w' n mk cyc lng:=
 ⟨h.bN.below hb h.bN.lt,h.bC.below hb h.bC.lt,h.bL.below hb h.bL.lt,h.mp.below hb,h.bM.below hb h.bM.lt,h.bS.below hb h.bS.lt⟩
theorem MS.setC(h:MS A0 n0 k0 A1 n1 k1 A2 n2 k2 s w n mk cyc lng)(x:Bool):MS A0 n0 k0 A1 n1 k1 A2 n2 k2 s (w.setCell ⟨s+1,0,N⟩ (.bool x)) n mk x lng:=by
 have hg:=bR w ⟨s+1,0,N⟩ (.bool x);exact⟨h.bN.grown hg L,h.bC.set 0 _,h.bL.grown hg L,h.mp.kept hg L,h.bM.grown hg L,h.bS.grown hg L⟩
theorem MS.setL(h:MS A0 n0 k0 A1 n1 k1 A2 n2 k2 s w n mk cyc lng)(x:Bool):MS A0 n0 k0 A1 n1 k1 A2 n2 k2 s (w.setCell ⟨s+2,0,N⟩ (.bool x)) n mk cyc x:=by
 have hg:=bR w ⟨s+2,0,N⟩ (.bool x);exact⟨h.bN.grown hg L,h.bC.grown hg L,h.bL.set 0 _,h.mp.kept hg L,h.bM.grown hg L,h.bS.grown hg L⟩
theorem MS.put(h:MS A0 n0 k0 A1 n1 k1 A2 n2 k2 s w n mk cyc lng){m:Nat}{c k:Int}(hm:lV w' (s+3) m (λy=>if y=c then Z (I J k)else(mk y).map (λk=>I J k)))(hg:w.grownBy w' (Z (s+3))):
  MS A0 n0 k0 A1 n1 k1 A2 n2 k2 s w' m (dR mk c k) cyc lng:=by
 refine⟨h.bN.grown hg L,h.bC.grown hg L,h.bL.grown hg L,hm.ext λx _=>?_,h.bM.grown hg L,h.bS.grown hg L⟩;unfold dR;split<;>rfl
theorem MS.ints(h:MS A0 n0 k0 A1 n1 k1 A2 n2 k2 s w n mk cyc lng)(hk:eL s w w'){E:Oa}{zs:Li}(hs:aA w E zs):aA w' E zs:=λhne=>by
 obtain⟨q,o,rfl,hc⟩:=hs hne;refine⟨q,o,rfl,λj u hu=>?_⟩;have b:=hc j u hu;have hi:∃z,u=I J z:=by
  rw[List.getElem?_map]at hu;cases hz:zs[j]? with
  |none=>rw[hz]at hu;cases hu
  |some z=>rw[hz]at hu;injection hu with hu;exact⟨z,hu.symm⟩
 obtain⟨z,rfl⟩:=hi
 have a:∀(B:Nat)(x:Bool),Box w B 4 [.bool x]->q≠B:=λB x hB e=>by
  subst e;unfold Box at hB;generalize o+j=m at b;rcases m with _|m
  ·simp[World.cell?,hB]at b
  simp[World.cell?,hB]at b
 have c:q≠s+3:=λe=>by rw[e,h.mp.nocell]at b;cases b
 exact(World.cell?_of_block (hk.2 q (World.block_lt_of_cell? w _ b) (a _ _ h.bC) (a _ _ h.bL) c)).trans b
end
def gG(ms:List Mp):Prop:=∀i,(hi:i<ms.length)->(0<=ms[i].frm/\ms[i].frm<=1114111)/\ms[i].toq.length<=64/\∀e∈ms[i].toq,0<=e/\e<=1114111
def hk(c:Int):Nat:=if 4<=Hg.kind c then 1 else 0
def fsM(ms:List Mp):Li:=ms.map Mp.frm
theorem yU(c:Int):hk c<=1:=by unfold hk;split<;>omega
theorem lE{c:Int}(h:4<=Hg.kind c):(Hg.decomp c).length<=3/\∀e∈Hg.decomp c,(0<=e/\e<=1114111)/\hk e=0/\1<=Hg.kind e:=by
 have k:=(Hg.kind_range c).2;have b:∀e:Int,0x1100<=e/\e<=0x1112->(0<=e/\e<=1114111)/\hk e=0/\1<=Hg.kind e:=λe he=>⟨O,by unfold hk;rw[Hg.kind1 he];rfl,by rw[Hg.kind1 he];omega⟩
 have d:∀e:Int,0x1161<=e/\e<=0x1175->(0<=e/\e<=1114111)/\hk e=0/\1<=Hg.kind e:=λe he=>⟨O,by unfold hk;rw[Hg.kind2 he];rfl,by rw[Hg.kind2 he];omega⟩
 have j:∀e:Int,0x11A8<=e/\e<=0x11C2->(0<=e/\e<=1114111)/\hk e=0/\1<=Hg.kind e:=λe he=>⟨O,by unfold hk;rw[Hg.kind3 he];rfl,by rw[Hg.kind3 he];omega⟩
 by_cases h4:Hg.kind c=4
 ·obtain⟨f,g,i⟩:=mZ h4
  rw[pC h4];refine⟨L,λe he=>?_⟩;simp only[List.mem_cons,List.not_mem_nil,or_false]at he;rcases he with rfl|rfl
  ·exact b _ O
  exact d _ O
 have a:Hg.kind c=5:=O;obtain⟨f,g,i⟩:=m_ a;rw[pD a];refine⟨L,λe he=>?_⟩;simp only[List.mem_cons,List.not_mem_nil,or_false]at he;rcases he with rfl|rfl|rfl
 ·exact b _ O
 ·exact d _ O
 exact j _ O
theorem gS{ms:List Mp}{b:Bool}{c:Int}{i:Nat}(h:aD ms b c=Z i):∃hi:i<ms.length,ms[i].frm=c/\(b=true\/ms[i].tag.size=0):=by
 unfold aD at h;rw[List.findIdx?_eq_some_iff_getElem]at h;obtain⟨hi,a,_⟩:=h;exact⟨hi,by simpa using a⟩
theorem AC{ms:List Mp}{b:Bool}{c:Int}{toq:Li}(hc:gG ms)(h:onM ms b c=Z toq):
  toq.length<=64/\(∀e∈toq,0<=e/\e<=1114111)/\((hk c=1/\toq.length<=3/\∀e∈toq,hk e=0)\/(hk c=0/\c∈fsM ms)):=by
 unfold onM at h;split at h
 ·next h4=>
  injection h with h;subst h;obtain⟨a,d⟩:=lE h4;exact⟨O,λe he=>(d e he).1,.inl ⟨by unfold hk;rw[if_pos h4],a,λe he=>(d e he).2.1⟩⟩
 next h4=>
 cases hf:aD ms b c with
 |none=>rw[hf]at h;cases h
 |some i=>
  rw[hf]at h;injection h with h;obtain⟨hi,a,_⟩:=gS hf;have ht:toM ms i=ms[i].toq:=by simp[toM,List.getD,hi]
  rw[ht]at h;subst h;obtain⟨j,f,g⟩:=hc i hi;exact⟨f,g,.inr ⟨by unfold hk;rw[if_neg h4],List.mem_map.2 ⟨ms[i],List.getElem_mem hi,a⟩⟩⟩
theorem tG{c:Int}(h:0<=c/\c<=1114111):iok c:=by
 unfold iok Lit.wf;simp[IntKind.min,IntKind.max,IntKind.signed,IntKind.bits];omega
theorem qN(w:Wv):(zeroValue 3).run prog w=.ok (I J 0) w:=oK_
structure rM(A0:Oa)(n0 k0:Nat)(A1:Oa)(n1 k1:Nat)(A2:Oa)(n2 k2:Nat)(s:Nat)(ms:List Mp)(c:Int)(w:Wv)(n:Nat)(mk:Int->Option Int)(cyc:Bool)(v:Int)(w':Wv)(n':Nat)(mk':Int->Option Int)(cyc' lng':Bool):Prop where
 bd:1<=v/\v<=aM
 ext:eV mk mk'
 inv:fP (onM ms true) aM mxE mk' cyc' lng'
 mon:cyc=true->cyc'=true
 sz:cyc'=false->Sz (onM ms true) aM c v
 st:MS A0 n0 k0 A1 n1 k1 A2 n2 k2 s w' n' mk' cyc' lng'
 kp:eL s w w'
 bel:Below s w w'
 pot:n'+200*unmarked (fsM ms) mk'<=n+200*unmarked (fsM ms) mk+2*hk c
 mkd:∀toq,onM ms true c=Z toq->toq≠[]->∃k,mk' c=Z k
def nM(A0:Oa)(n0 k0:Nat)(A1:Oa)(n1 k1:Nat)(A2:Oa)(n2 k2:Nat)(s:Nat)(ms:List Mp)(c:Int)(w:Wv)(n:Nat)(mk:Int->Option Int)(cyc:Bool)(e:Ending)(w':Wv):Prop:=
 ∃v n' mk' cyc' lng',e=.returned (I J v)/\rM A0 n0 k0 A1 n1 k1 A2 n2 k2 s ms c w n mk cyc v w' n' mk' cyc' lng'
def rJ(A0:Oa)(n0 k0:Nat)(A1:Oa)(n1 k1:Nat)(A2:Oa)(n2 k2:Nat)(s:Nat)(ms:List Mp)(w0:Wv)(u:Nat):Prop:=
 ∀(c:Int)(w:Wv)(n:Nat)(mk:Int->Option Int)(cyc lng:Bool),2*unmarked (fsM ms) mk+hk c<u->0<=c/\c<=1114111->fP (onM ms true) aM mxE mk cyc lng->(∀x,mk x=Z (-1)->cK (onM ms true) x c)->
  MS A0 n0 k0 A1 n1 k1 A2 n2 k2 s w n mk cyc lng->Below s w0 w->n+200*unmarked (fsM ms) mk+2*hk c<=1000000000->
  Calls prog 181 #[I J c,.pointer (Z ⟨s,0,N⟩),.pointer (Z ⟨s+4,0,N⟩),.pointer (Z ⟨s+1,0,N⟩),.pointer (Z ⟨s+5,0,N⟩),.pointer (Z ⟨s+2,0,N⟩)] w
   (nM A0 n0 k0 A1 n1 k1 A2 n2 k2 s ms c w n mk cyc)
theorem eV.finish{mk mk':Int->Option Int}{c v:Int}(hn:mk c=N)(hv:v≠-1)(h:eV (dR mk c (-1)) mk'):eV mk (dR mk' c v):=by
 refine⟨λx k e=>?_,λx e=>?_⟩
 ·have hx:¬x=c:=λe'=>by rw[e',hn]at e;cases e
  rw[eS _ _ hx];exact h.old x k (by rw[eS _ _ hx];exact e)
 by_cases hx:x=c
 ·subst hx;rw[iX];intro a;injection a with a;exact hv a
 rw[eS _ _ hx];exact h.new x (by rw[eS _ _ hx];exact e)
theorem eV.way{on:Int->Option (Li)}{mk mk':Int->Option Int}{c e:Int}(h:eV (dR mk c (-1)) mk')(hp:∀x,mk x=Z (-1)->cK on x c)(he:kG on c e):∀x,mk' x=Z (-1)->cK on x e:=by
 intro x hx;cases hm:dR mk c (-1) x with
 |none=>exact absurd hx (h.new x hm)
 |some v=>
  have a:=h.old x v hm;rw[hx]at a;injection a with a;subst a;by_cases e':x=c
  ·subst e';exact .one he
  rw[eS _ _ e']at hm;exact .more (hp x hm) he
structure oR(A0:Oa)(n0 k0:Nat)(A1:Oa)(n1 k1:Nat)(A2:Oa)(n2 k2:Nat)(s:Nat)(ms:List Mp)(c:Int)(toq:Li)(w:Wv)(n:Nat)(mk:Int->Option Int)(cyc:Bool)(D i:Nat)(vs:Li)(w':Wv)(n':Nat)(mk':Int->Option Int)(cyc' lng':Bool):Prop where
 le:i<=toq.length
 ln:vs.length=i
 bd:∀v∈vs,1<=v/\v<=aM
 ext:eV (dR mk c (-1)) mk'
 inv:fP (onM ms true) aM mxE mk' cyc' lng'
 mon:cyc=true->cyc'=true
 sz:cyc'=false->∀j,(h1:j<toq.length)->(h2:j<vs.length)->Sz (onM ms true) aM toq[j] vs[j]
 st:MS A0 n0 k0 A1 n1 k1 A2 n2 k2 s w' n' mk' cyc' lng'
 kp:eL s w w'
 bel:Below s w w'
 pot:n'+200*unmarked (fsM ms) mk'<=n+1+200*unmarked (fsM ms) (dR mk c (-1))+D*i
section
variable {A0:Oa}{n0 k0:Nat}{A1:Oa}{n1 k1:Nat}{A2:Oa}{n2 k2:Nat}{s:Nat}{ms:List Mp}{c:Int}{toq:Li}{w:Wv}{n:Nat}{mk:Int->Option Int}{cyc:Bool}{D i:Nat}{vs:Li}{w':Wv}{n':Nat}{mk':Int->Option Int}{cyc' lng':Bool}
theorem JY{vs:Li}(h:∀v∈vs,1<=v/\v<=aM):0<=dK aM vs/\dK aM vs<=aM:=by
 by_cases e:vs=[]
 ·subst e;simp[dK,aM]
 have:=rU (cap:=aM) (by unfold aM;omega) (λv hv=>(h v hv).1) e;omega
theorem oR.next(h:oR A0 n0 k0 A1 n1 k1 A2 n2 k2 s ms c toq w n mk cyc D i vs w' n' mk' cyc' lng')(hi:i<toq.length){v:Int}{w2:Wv}{n2':Nat}{mk2:Int->Option Int}{cyc2 lng2:Bool}
  (p:rM A0 n0 k0 A1 n1 k1 A2 n2 k2 s ms toq[i] w' n' mk' cyc' v w2 n2' mk2 cyc2 lng2) (hD:2*hk toq[i]<=D):oR A0 n0 k0 A1 n1 k1 A2 n2 k2 s ms c toq w n mk cyc D (i+1) (vs++[v]) w2 n2' mk2 cyc2 lng2:=by
 refine⟨hi,by simp[h.ln],λx hx=>?_,h.ext.trans p.ext,p.inv,λe=>p.mon (h.mon e),λe j a b=>?_,p.st,h.kp.trans p.kp,h.bel.trans p.bel,?_⟩
 ·rcases List.mem_append.1 hx with hx|hx
  ·exact h.bd x hx
  simp at hx;subst hx;exact p.bd
 ·by_cases e2:j<vs.length
  ·rw[List.getElem_append_left e2]
   refine h.sz ?_ j a e2;cases hc:cyc' with
   |false=>rfl
   |true=>rw[p.mon hc]at e;cases e
  have d:j=i:=by simp at b;have:=h.ln;omega
  subst d;rw[List.getElem_append_right O];simpa[h.ln]using p.sz e
 have a:=h.pot;have b:=p.pot;rw[Nat.mul_succ];omega
end
theorem YW(A0:Oa)(n0 k0:Nat)(A1:Oa)(k1:Nat)(A2:Oa)(n2 k2:Nat)(s:Nat)(ms:List Mp)(w0:Wv)(hs0:s=w0.heap.size)(hA:Mps w0 A1 ms)(hst:StF ms)(hco:gG ms)(hbig:ms.length<=1048576)(u:Nat)
  (ih:rJ A0 n0 k0 A1 ms.length k1 A2 n2 k2 s ms w0 u):rJ A0 n0 k0 A1 ms.length k1 A2 n2 k2 s ms w0 (u+1):=by
 intro c w n mk B au hu hc ak V S ai hn;have HI:=G ih;clear ih;have ON:=G (λW(hb:Below s w0 W)=>t_ A0 n0 k0 A1 ms.length k1 A2 n2 k2 ms c true W (hA.below (show Below w0.heap.size w0 W from hs0 ▸ hb)) rfl hbig hst);have KD:=G (λtoq=>AC (ms:=ms) (b:=true) (c:=c) (toq:=toq) hco);have HV:=G ak;have HP:=G V;have q0:w.cell? ⟨s,0,N⟩=Z (H A0 n0 k0):=S.bN.cell rfl;have q1:w.cell? ⟨s,1,N⟩=Z (H A1 ms.length k1):=S.bN.cell rfl;have q2:w.cell? ⟨s,2,N⟩=Z (H A2 n2 k2):=S.bN.cell rfl;have HM:=G S;clear ak V S hst hco hs0 hA;generalize hR:onM ms true c=R at *;have HR:=G hR;clear hR;go_enter func181,ntmps181;go_wp2_with fail;refine(ON.o _ ai).mono ?_
 rintro e w1 ⟨E,d,rfl,hd,hE,ae⟩;clear ON;have l:=G (HM.o.below ae);have ar:=G (eL.of_below (s:=s) ae);have bq:s<=w.heap.size:=Nat.le_of_lt HM.o.bN.lt;have ap:=G (ae.mono bq)
 have an:∀(hl:R=N\/R=Z []),nM A0 n0 k0 A1 ms.length k1 A2 n2 k2 s ms c w n mk B (.returned (I J 1)) w1:=λhl=>by
  refine⟨1,n,mk,B,au,rfl,⟨by unfold aM;omega,eV.refl _,HV.o,λh=>h,λ_=>.leaf (by rw[HR.o];exact hl),l.o,ar.o,ap.o,O,λtoq h T=>?_⟩⟩;rw[HR.o]at h;rcases hl with rfl|rfl
  ·cases h
  injection h with h;exact absurd h.symm T
 have LF:=G an;clear an;cases R with
 |none=>
  go_wp2;go_ret;exact LF.o L
 |some toq=>
  simp only[Option.getD_some,Option.isSome_some]at hd hE|-;rcases toq with _|⟨t0,tr⟩
  ·go_wp2
   go_ret;exact LF.o L
  clear LF;generalize hto:t0::tr=toq at *;have T:toq≠[]:=by rw[<-hto];simp
  have b5:0<toq.length:=by rw[<-hto];simp
  clear hto;have p4:w1.cell? ⟨s+4,0,N⟩=Z (.map (Z (s+3))):=l.o.bM.cell rfl;have f:iok c:=tG hc;have a7:onM ms true c=Z toq:=HR.o;have aa:=G a7;clear a7;cases hm:mk c with
  |some k=>
   have cb:=G hm;have f1:w1.frozen? ⟨s+1,0,N⟩=false:=l.o.bC.free 0;have ck:w1.cell? ⟨s+1,0,N⟩=Z (.bool B):=l.o.bC.cell rfl;have cg:=HV.o.bd c k hm
   have K:=G (λ(v:Int) (b:Bool) (hv:v=max k 1) (hb:b=(B||(k==-1)))=>show nM A0 n0 k0 A1 ms.length k1 A2 n2 k2 s ms c w n mk B (.returned (I J v)) (w1.setCell ⟨s+1,0,N⟩ (.bool b))from by
    subst hv;subst hb
    refine⟨_,n,mk,_,au,rfl,⟨by unfold aM at *;omega,eV.refl _,HV.o.meet hm (λe=>HP.o c e),λh=>by simp[h],λh=>?_,l.o.setC _,ar.o.trans (eL.of_grown (bR _ _ _) (.inl rfl)),ap.o.setCell L _,O,λ_ _ _=>⟨k,hm⟩⟩⟩
    simp only[Bool.or_eq_false_iff,beq_eq_false_iff_ne]at h
    have h1:=HV.o.fin h.1 c k hm h.2
    have h2:=h1.bd (by unfold aM;omega)
    rw[Int.max_eq_left h2.1]
    exact h1)
   have g:(mk c).map (λk=>(Value.int .i64 k))=Z (I J k):=by rw[hm];rfl
   clear hm;cases B with
   |true=>
    go_wp2_with(at_lookup;refine mL rfl _ _ 229 rfl l.o.mp jV underlying229 (qN _) rfl rfl f (jT f) ?_;rw[g];simp only[Option.getD_some,Option.isSome_some]);all_goals(go_ret;exact K.o _ _ O L)
   |false=>
    by_cases hk1:k=-1
    ·subst hk1
     go_wp2_with(at_lookup;refine mL rfl _ _ 229 rfl l.o.mp jV underlying229 (qN _) rfl rfl f (jT f) ?_;rw[g];simp only[Option.getD_some,Option.isSome_some]);all_goals(go_ret;exact K.o _ _ O L)
    have a4:(k==-1)=false:=by simpa using hk1
    rw[a4]at K;clear a4;go_wp2_with(at_lookup;refine mL rfl _ _ 229 rfl l.o.mp jV underlying229 (qN _) rfl rfl f (jT f) ?_;rw[g];simp only[Option.getD_some,Option.isSome_some]);all_goals(go_ret;exact K.o _ _ O (by simp[hk1]))
  |none=>
   have g:(mk c).map (λk=>(Value.int .i64 k))=N:=by rw[hm];rfl
   go_wp2_with first
    |(at_lookup;refine mL rfl _ _ 229 rfl l.o.mp jV underlying229 (qN _) rfl rfl f (jT f) ?_;rw[g];simp only[Option.getD_none,Option.isSome_none])
    |(at_mapUpdate;refine oM rfl _ _ _ 229 rfl l.o.mp jV underlying229 (by unfold maxLen;omega) rfl rfl rfl f (jT f) (λy _ e=>tD e) ?_;intro w2 a3 Q)
   have bj:=G (l.o.put (c:=c) (k:=-1) a3 Q);have bm:Below s w w2:=lA ap.o Q O (by have:=ae.size;omega);have bh:=G (ar.o.trans (eL.of_grown Q (.inr (.inr rfl))));have bf:=G (λ(W:Wv) (hk:eL s w1 W)=>l.o.ints hk hE);have bg:=G (eL.of_grown (s:=s) Q (.inr (.inr rfl)));clear a3 Q hE g p4;obtain⟨al,P,aj⟩:=KD.o toq rfl
   obtain⟨D,a0,a1,a2⟩:∃D,(∀e∈toq,2*unmarked (fsM ms) (dR mk c (-1))+hk e<u)/\(∀e∈toq,2*hk e<=D)/\n+2+200*unmarked (fsM ms) (dR mk c (-1))+D*64<=n+200*unmarked (fsM ms) mk+2*hk c:=by
    rcases aj with⟨g1,_,g3⟩|⟨g1,g2⟩
    ·have ch:unmarked (fsM ms) (dR mk c (-1))<=unmarked (fsM ms) mk:=qH λx e=>by
      by_cases e':x=c
      ·rw[e',hm]
      rw[eS _ _ e']at e;exact e
     exact⟨0,λe he=>by have:=g3 e he;omega,λe he=>by have:=g3 e he;omega,O⟩
    have ci:=FK (k:=-1) g2 hm;exact⟨2,λe _=>by have:=yU e;omega,λe _=>by have:=yU e;omega,O⟩
   have ba:=G a0;have aw:=G a1;have aq:=G a2;have a9:=G P;have ax:=G hm;have HN:=G hn;have HU:=G hu;clear a0 a1 a2 P aj KD hm hn hu
   go_loopw [12,46] (λsu q wr=>∃(i:Nat)(vs:Li)(n':Nat)(r:Int->Option Int)(t A:Bool),su=I J (dK aM vs)/\q=I J i/\eL s w1 wr/\oR A0 n0 k0 A1 ms.length k1 A2 n2 k2 s ms c toq w n mk B D i vs wr n' r t A)
    (λ_ q _=>toq.length-(intOf q).toNat)
   case atStart=>
    exact⟨0,[],n+1,dR mk c (-1),B,au,rfl,rfl,bg.o,⟨Nat.zero_le _,rfl,λv h=>absurd h L,eV.refl _,HV.o.begin aa.o T ax.o (by unfold aM;omega) (by unfold mxE;omega),λh=>h,λ_ j _ h2=>by simp at h2,bj.o,bh.o,bm,L⟩⟩
   obtain⟨i,vs,n',r,t,A,rfl,rfl,a5,HL⟩:=hrel;have b6:0<=dK aM vs/\dK aM vs<=65:=JY HL.bd;have b4:=HL.le;have a:=G HL;clear HL;by_cases hi:i<toq.length
   ·obtain⟨b,o,rfl,M⟩:=(bf.o wr a5).at hi
    have cf:=M i hi;clear M;have p5:wr.cell? ⟨s+5,0,N⟩=Z (.func (.func 181) #[] #[.pointer (Z ⟨s,0,N⟩),.pointer (Z ⟨s+4,0,N⟩),.pointer (Z ⟨s+1,0,N⟩),.pointer (Z ⟨s+5,0,N⟩),.pointer (Z ⟨s+2,0,N⟩)]):=a.o.st.bS.cell rfl;have z:toq[i]∈toq:=List.getElem_mem hi
    have CL:=G (HI.o toq[i] wr n' r t A (by have h1:=ba.o _ z;have h2:=a.o.ext.unmarked (fsM ms);omega) (a9.o _ z) a.o.inv (a.o.ext.way HP.o ⟨toq,aa.o,z⟩) a.o.st (ai.trans a.o.bel)
     (by have h1:=a.o.pot;have h2:=aq.o;have h3:=HN.o;have h4:=aw.o _ z;have h5:D*i+D<=D*64:=by { rw[<-Nat.mul_succ];exact Nat.mul_le_mul_left _ O };omega))
    have NX:=G (λ(v:Int) W ag af C F (p:rM A0 n0 k0 A1 ms.length k1 A2 n2 k2 s ms toq[i] wr n' r t v W ag af C F)=>a.o.next hi p (aw.o _ z));clear z;generalize toq[i]=te at *;have CS:=G (λv=>(J_ aM vs v));generalize dK aM vs=sm at *;unfold aM at CS;go_wp2_with fail;refine CL.o.mono ?_
    rintro e W ⟨v,ag,af,C,F,rfl,hp⟩;have br:=hp.bd;have bk:=G (NX.o v W ag af C F hp);have bb:=G (a5.trans hp.kp);clear hp CL NX p5;unfold aM at br;have CV:=G (CS.o v);go_wp2_with fail
    all_goals
     go_roundw
     case rel=>exact⟨i+1,vs++[v],ag,af,C,F,by { show _=Value.int .i64 (dK 65 (vs++[v]));rw[CV.o]<;>(congr 1<;>(split<;>omega)) },oN_,bb.o,bk.o⟩
     exact oI_
   have bn:i=toq.length:=O;subst bn;have p4:wr.cell? ⟨s+4,0,N⟩=Z (.map (Z (s+3))):=a.o.st.bM.cell rfl;have am:vs≠[]:=λe=>by have:=a.o.ln;rw[e]at this;simp at this;omega
   have X:=rU (cap:=aM) (by unfold aM;omega) (λv hv=>(a.o.bd v hv).1) am;have HZ:=G (λ(h:t=false)=>Sz.node (on:=onM ms true) (cap:=aM) aa.o T a.o.ln (λj h1 h2=>a.o.sz h j h1 h2));have a6:r c=Z (-1):=a.o.ext.old c (-1) (iX _ _ _);have bo:n' < maxLen:=by
    have h1:=a.o.pot;have h2:=aq.o;have h3:=HN.o;have h5:D*toq.length<=D*64:=Nat.mul_le_mul_left _ al;unfold maxLen;omega
   have az:=U (n'+1+200*unmarked (fsM ms) (dR r c (dK aM vs))<=n+200*unmarked (fsM ms) mk+2*hk c) (by
    have h1:=a.o.pot;have h2:=aq.o
    have h5:D*toq.length<=D*64:=Nat.mul_le_mul_left _ al
    have h6:unmarked (fsM ms) (dR r c (dK aM vs))<=unmarked (fsM ms) r:=qH λx e=>by
     by_cases e':x=c
     ·rw[e',iX]at e;cases e
     rw[eS _ _ e']at e;exact e
    omega)
   have bp:s<=wr.heap.size:=Nat.le_of_lt a.o.st.bN.lt
   have K:=G (λ(Y:Wv) (ad:lV Y (s+3) (n'+1) (λy=>if y=c then Z (I J (dK aM vs))else(r y).map (λk=>I J k))) (m:wr.grownBy Y (Z (s+3))) (b:Bool) (hb:b=(A || decide (64<dK aM vs)))=>show
    nM A0 n0 k0 A1 ms.length k1 A2 n2 k2 s ms c w n mk B (.returned (I J (dK aM vs))) (Y.setCell ⟨s+2,0,N⟩ (.bool b))from by
     subst hb
     exact⟨dK aM vs,n'+1,dR r c (dK aM vs),t,A || decide (64<dK aM vs),rfl,⟨X,a.o.ext.finish ax.o O,a.o.inv.finish aa.o T a6 X HZ.o (by unfold mxE;omega),a.o.mon,HZ.o,(a.o.st.put ad m).setL _,
      (a.o.kp.trans (eL.of_grown m (.inr (.inr rfl)))).trans (eL.of_grown (bR _ _ _) (.inr (.inl rfl))),(lA a.o.bel m O bp).setCell L _,az.o,λ_ _ _=>⟨_,iX _ _ _⟩⟩⟩)
   have LG:=G (λ(Y:Wv) (m:wr.grownBy Y (Z (s+3)))=>a.o.st.bL.grown m L);have bc:=G a.o.st.mp;clear X a6 HZ az am;generalize dK aM vs=sm at *;generalize hl:A=lg at *;clear a hl;go_wp2_with(at_mapUpdate;refine oM rfl _ _ _ 229 rfl bc.o jV underlying229 bo rfl rfl rfl f (jT f) (λy _ e=>tD e) ?_;intro Y ad m;have f3:Y.frozen? ⟨s+2,0,N⟩=false:=(LG.o Y m).free 0;have q3:Y.cell? ⟨s+2,0,N⟩=Z (.bool lg):=(LG.o Y m).cell rfl;have FN:=G (K.o Y ad m);clear ad m;cases lg);all_goals go_wp2_with fail
   all_goals(go_ret;exact FN.o _ L)
theorem YV(A0:Oa)(n0 k0:Nat)(A1:Oa)(k1:Nat)(A2:Oa)(n2 k2:Nat)(s:Nat)(ms:List Mp)(w0:Wv)(hs0:s=w0.heap.size)(hA:Mps w0 A1 ms)(hst:StF ms)(hco:gG ms)(hbig:ms.length<=1048576)(u:Nat):
  rJ A0 n0 k0 A1 ms.length k1 A2 n2 k2 s ms w0 u:=by
 induction u with
 |zero=>intro c w n mk a b hu;omega
 |succ u ih=>exact YW A0 n0 k0 A1 k1 A2 n2 k2 s ms w0 hs0 hA hst hco hbig u ih
end
section
open Go.RowKit
def dG(ms:List Mp):Prop:=∀i,(hi:i<ms.length)->Hg.kind ms[i].frm=0
structure kH(ms:List Mp)(cyc lng:Bool):Prop where
 cy:cyc=true->∃x,cK (onM ms true) x x
 ends:cyc=false->∀i,(hi:i<ms.length)->∃v,Sz (onM ms true) aM ms[i].frm v
 lg:cyc=false->(lng=true ↔ ∃i,∃hi:i<ms.length,∃v,Sz (onM ms true) aM ms[i].frm v/\mxE<v)
theorem gT{ms:List Mp}{i:Nat}(hi:i<ms.length):kQ ms i=ms[i].frm:=by simp[kQ,List.getD,hi]
theorem kY{ms:List Mp}{i:Nat}(hi:i<ms.length):toM ms i=ms[i].toq:=by simp[toM,List.getD,hi]
theorem nB{ms:List Mp}(hs:StF ms)(hh:dG ms)(compat:Bool){i:Nat}(hi:i<ms.length):onM ms compat ms[i].frm=if compat=true\/ms[i].tag.size=0 then Z ms[i].toq else N:=by
 unfold onM;rw[if_neg (by rw[hh i hi];omega),pI hs hi rfl];split
 ·rw[Option.map_some,kY hi]
 rfl
theorem AD{ms:List Mp}(hh:dG ms)(compat:Bool){e:Int}(h1:1<=Hg.kind e)(h2:Hg.kind e<4):onM ms compat e=N:=by
 unfold onM;rw[if_neg O,yH,Option.map_none];intro i hi he;have:=hh i hi;rw[he]at this;omega
theorem JZ(n:Nat)(h:(n:Int)<=aM):dK aM (List.replicate n 1)=n:=by
 rw[rT (λv hv=>by rw[List.eq_of_mem_replicate hv];omega) (by unfold aM;omega)];have:∀n:Nat,(List.replicate n (1:Int)).sum=n:=by
  intro n;induction n with
  |zero=>rfl
  |succ n ih=>rw[List.replicate_succ,List.sum_cons,ih];omega
 rw[this];omega
theorem rN{ms:List Mp}(hh:dG ms)(compat:Bool){e:Int}(h:aD ms compat e=N):Sz (onM ms compat) aM e (dlM e):=by
 by_cases h4:4<=Hg.kind e
 ·obtain⟨g,d⟩:=lE h4
  have c:onM ms compat e=Z (Hg.decomp e):=if_pos h4;have b:Hg.decomp e≠[]:=by
   have j:=(Hg.kind_range e).2;by_cases h44:Hg.kind e=4
   ·rw[pC h44];simp
   rw[pD O];simp
  have:=Sz.node (on:=onM ms compat) (cap:=aM) (vs:=List.replicate (Hg.decomp e).length 1) c b L (λi h1 h2=>by
   rw[List.getElem_replicate]
   obtain⟨_,a,f⟩:=d _ (List.getElem_mem h1)
   refine .leaf (.inl (AD hh compat f ?_))
   unfold hk at a
   split at a
   ·cases a
   ·omega)
  rw[JZ _ (by unfold aM;omega)]at this;exact this
 have hd:dlM e=1:=by unfold dlM;rw[mB O];rfl
 rw[hd];refine .leaf (.inl ?_);unfold onM;rw[if_neg h4,h];rfl
theorem zN{ms:List Mp}(hs:StF ms)(hh:dG ms)(compat:Bool):vD ms.length (kQ ms) (toM ms) (aD ms compat) dlM aM (onM ms compat) (aX ms compat):=by
 refine⟨by unfold aM;omega,λi hi hk=>?_,λi hi hk=>?_,λe m h=>?_,λe h=>rN hh compat h⟩
 ·rw[gT hi,nB hs hh compat hi,kY hi,if_pos]
  unfold aX at hk;cases compat<;>simp_all [List.getD]
 ·rw[gT hi,nB hs hh compat hi,if_neg]
  unfold aX at hk;cases compat<;>simp_all [List.getD]
 obtain⟨hi,a,_⟩:=gS h;exact⟨hi,by rw[gT hi];exact a⟩
theorem RO{ms:List Mp}(hh:dG ms){c v:Int}(h:Sz (onM ms true) aM c v)(hv:mxE<v):∃i,∃hi:i<ms.length,ms[i].frm=c:=by
 cases hf:aD ms true c with
 |some i=>obtain⟨hi,a,_⟩:=gS hf;exact⟨i,hi,a⟩
 |none=>
  have a:=h.func (rN hh true hf);subst a;exfalso;unfold dlM mxE at hv;by_cases h4:4<=Hg.kind c
  ·have:=(lE h4).1;omega
  rw[mB O]at hv;simp at hv
theorem kH.of{ms:List Mp}{mk:Int->Option Int}{cyc lng:Bool}(hs:StF ms)(hh:dG ms)(h:fP (onM ms true) aM mxE mk cyc lng)(hf:∀x,mk x≠Z (-1))(hm:∀i,(hi:i<ms.length)->ms[i].toq≠[]->∃k,mk ms[i].frm=Z k):kH ms cyc lng:=by
 have g:=λi(hi:i<ms.length)=>(nB hs hh true hi).trans (if_pos (.inl rfl))
 have d:cyc=false->∀i,(hi:i<ms.length)->∃v,Sz (onM ms true) aM ms[i].frm v/\(mk ms[i].frm=Z v\/v=1):=λhc i hi=>by
  by_cases ht:ms[i].toq=[]
  ·exact⟨1,.leaf (.inr (by rw[g i hi,ht])),.inr rfl⟩
  obtain⟨k,hk⟩:=hm i hi ht;exact⟨k,h.fin hc _ k hk (λe=>hf _ (by rw[hk,e])),.inl hk⟩
 refine⟨h.cy,λhc i hi=>?_,λhc=>⟨λhl=>?_,?_⟩⟩
 ·obtain⟨v,b,_⟩:=d hc i hi;exact⟨v,b⟩
 ·obtain⟨c,k,b,a⟩:=h.lg1 hl
  have j:=h.fin hc c k b (by unfold mxE at a;omega);obtain⟨i,hi,he⟩:=RO hh j a;subst he;exact⟨i,hi,k,j,a⟩
 rintro⟨i,hi,v,b,a⟩;obtain⟨m,l,f⟩:=d hc i hi;have:=b.func l;subst this;rcases f with f|f
 ·exact h.lg2 _ v f a
 unfold mxE at a;omega
theorem IOq{ms:List Mp}(hs:StF ms){c v:Int}(h:Sz (onM ms true) aM c v):∃u,Sz (onM ms false) aM c u/\u<=v:=by
 have d:∀c toq,onM ms false c=Z toq->onM ms true c=Z toq:=λc toq h=>by
  unfold onM at h|-;split
  ·next h4=>rw[if_pos h4]at h;exact h
  next h4=>
  rw[if_neg h4]at h;cases hf:aD ms false c with
  |none=>rw[hf]at h;cases h
  |some i=>
   obtain⟨hi,e,_⟩:=gS hf;rw[hf]at h;rw[pI hs hi e,if_pos (.inl rfl)];exact h
 have k:(1:Int)<=aM:=by unfold aM;omega
 induction h with
 | @leaf c h=>
  refine⟨1,.leaf ?_,O⟩;cases hf:onM ms false c with
  |none=>exact .inl rfl
  |some toq=>
   right;rcases h with h|h
   ·rw[d c toq hf]at h;cases h
   rw[d c toq hf]at h;exact h
 | @node c toq vs e h2 h3 h4 ih=>
  cases hf:onM ms false c with
  |none=>exact⟨1,.leaf (.inl hf),(Sz.bd k (Sz.node e h2 h3 h4)).1⟩
  |some to'=>
   have:=d c to' hf;rw[e]at this;injection this with this;subst this
   have f:∀i:Nat,∃u:Int,∀(hi:i<toq.length)(hv:i<vs.length),Sz (onM ms false) aM toq[i] u/\u<=vs[i]:=λi=>by
    by_cases hi:i<toq.length
    ·obtain⟨u,j,n⟩:=ih i hi O
     exact⟨u,λ_ _=>⟨j,n⟩⟩
    exact⟨0,λh=>absurd h hi⟩
   refine⟨dK aM ((List.range toq.length).map (λi=>(f i).choose)),.node hf h2 L (λi e h2=>?_),?_⟩
   ·simp only[List.getElem_map,List.getElem_range]
    exact((f i).choose_spec e O).1
   have g:∀(a b:Li),a.length=b.length->(∀i,(e:i<a.length)->(h2:i<b.length)->a[i]<=b[i])->∀s t:Int,s<=t->a.foldl (λs v=>min (s+v) aM) s<=b.foldl (λs v=>min (s+v) aM) t:=by
    intro a;induction a with
    |nil=>intro b hl _ s t m;cases b with|nil=>exact m|cons _ _=>simp at hl
    |cons x a iha=>
     intro b hl l s t m;cases b with
     |nil=>simp at hl
     |cons y b=>
      have o:=l 0 L L;simp only[List.getElem_cons_zero]at o;refine iha b (by simpa using hl) (λi j n=>?_) _ _ oD_;have:=l (i+1) oU_ oU_;simpa using this
   refine g _ _ (by simp[h3]) (λi j n=>?_) 0 0 O;simp only[List.getElem_map,List.getElem_range];simp at j;exact((f i).choose_spec j n).2
end
section
open Go.RowKit Go.Maps Go.WideMaps
theorem zJ(W:Wv)(a:Addr)(x:Bool)(h:W.cell? a=Z (.bool x)):(loadVar 4 a).run prog W=.ok (.bool x) W:=by
 have hu:=underlying4;simp only[loadVar,isAgg,Sem.run_bind,run_underlying hu,Result.andThen_ok,Sem.run_pure];simp[run_load,h]
theorem WV{fn:Func}{p q:Tmp}{t u:TypeId}(h:fn.results=#[.cell p t,.cell q u])(tmps:Array Value)(P:Program)(w:Wv){a b:Addr}{x y:Value}(ha:tmps.getD p undef=.pointer (Z a))(hb:tmps.getD q undef=.pointer (Z b))
  (hx:(loadVar t a).run P w=.ok x w) (hy:(loadVar u b).run P w=.ok y w):(results fn tmps).run P w=.ok (.tuple #[x,y]) w:=by
 rw[Array.getD_eq_getD_getElem?]at ha hb;simp only[results,h];simp[Sem.run_bind,Result.andThen,ha,hb,asAddr,hx,hy]
theorem GI(on:Int->Option (Li))(cap mx:Int):fP on cap mx (λ_=>N) false false:=⟨λ_ _ h=>(by cases h),λ_ _ _ h=>(by cases h),λh=>(by cases h),λh=>(by cases h),λ_ _ h=>(by cases h),λ_ _ h=>(by cases h)⟩
def GY(ms:List Mp)(w:Wv)(e:Ending)(w':Wv):Prop:=∃cyc lng,e=.returned (.tuple #[.bool cyc,.bool lng])/\kH ms cyc lng/\By w w'
theorem FJ(fs:Li)(mk:Int->Option Int):unmarked fs mk<=fs.length:=List.length_filter_le _ _
theorem GM(A0:Oa)(n0 k0:Nat)(A1:Oa)(n1 k1:Nat)(A2:Oa)(n2 k2:Nat)(w:Wv):MS A0 n0 k0 A1 n1 k1 A2 n2 k2 w.heap.size (((((((w).alloc (.cells #[H A0 n0 k0,H A1 n1 k1,H A2 n2 k2] 28)).alloc (.cells #[.bool false] 4)).alloc (.cells #[.bool false] 4)).alloc (.map #[] 0)).alloc (.cells #[.map (Z (w.heap.size+1+1+1))] 229)).alloc (.cells #[.func (.func 181) #[] #[.pointer (Z ⟨w.heap.size,0,N⟩),.pointer (Z ⟨w.heap.size+1+1+1+1,0,N⟩),.pointer (Z ⟨w.heap.size+1,0,N⟩),.pointer (Z ⟨w.heap.size+1+1+1+1+1,0,N⟩),.pointer (Z ⟨w.heap.size+1+1,0,N⟩)]] 147)) 0 (λ_=>N) false false/\By w (((((((w).alloc (.cells #[H A0 n0 k0,H A1 n1 k1,H A2 n2 k2] 28)).alloc (.cells #[.bool false] 4)).alloc (.cells #[.bool false] 4)).alloc (.map #[] 0)).alloc (.cells #[.map (Z (w.heap.size+1+1+1))] 229)).alloc (.cells #[.func (.func 181) #[] #[.pointer (Z ⟨w.heap.size,0,N⟩),.pointer (Z ⟨w.heap.size+1+1+1+1,0,N⟩),.pointer (Z ⟨w.heap.size+1,0,N⟩),.pointer (Z ⟨w.heap.size+1+1+1+1+1,0,N⟩),.pointer (Z ⟨w.heap.size+1+1,0,N⟩)]] 147)):=by
 have f:Box ((w).alloc (.cells #[H A0 n0 k0,H A1 n1 k1,H A2 n2 k2] 28)) w.heap.size 28 [H A0 n0 k0,H A1 n1 k1,H A2 n2 k2]:=Box.new _ _ _ rfl;have g:Box (((w).alloc (.cells #[H A0 n0 k0,H A1 n1 k1,H A2 n2 k2] 28)).alloc (.cells #[.bool false] 4)) (w.heap.size+1) 4 [.bool false]:=Box.new _ _ _ L;have h:Box ((((w).alloc (.cells #[H A0 n0 k0,H A1 n1 k1,H A2 n2 k2] 28)).alloc (.cells #[.bool false] 4)).alloc (.cells #[.bool false] 4)) (w.heap.size+2) 4 [.bool false]:=Box.new _ _ _ L;have i:lV (((((w).alloc (.cells #[H A0 n0 k0,H A1 n1 k1,H A2 n2 k2] 28)).alloc (.cells #[.bool false] 4)).alloc (.cells #[.bool false] 4)).alloc (.map #[] 0)) (w.heap.size+3) 0 (λ_=>N):=by
  have:=aV.made prog 3 nW iok ((((w).alloc (.cells #[H A0 n0 k0,H A1 n1 k1,H A2 n2 k2] 28)).alloc (.cells #[.bool false] 4)).alloc (.cells #[.bool false] 4));simpa using this
 have j:Box ((((((w).alloc (.cells #[H A0 n0 k0,H A1 n1 k1,H A2 n2 k2] 28)).alloc (.cells #[.bool false] 4)).alloc (.cells #[.bool false] 4)).alloc (.map #[] 0)).alloc (.cells #[.map (Z (w.heap.size+1+1+1))] 229)) (w.heap.size+4) 229 [.map (Z (w.heap.size+1+1+1))]:=Box.new _ _ _ L;have k:Box (((((((w).alloc (.cells #[H A0 n0 k0,H A1 n1 k1,H A2 n2 k2] 28)).alloc (.cells #[.bool false] 4)).alloc (.cells #[.bool false] 4)).alloc (.map #[] 0)).alloc (.cells #[.map (Z (w.heap.size+1+1+1))] 229)).alloc (.cells #[.func (.func 181) #[] #[.pointer (Z ⟨w.heap.size,0,N⟩),.pointer (Z ⟨w.heap.size+1+1+1+1,0,N⟩),.pointer (Z ⟨w.heap.size+1,0,N⟩),.pointer (Z ⟨w.heap.size+1+1+1+1+1,0,N⟩),.pointer (Z ⟨w.heap.size+1+1,0,N⟩)]] 147)) (w.heap.size+5) 147 [.func (.func 181) #[] #[.pointer (Z ⟨w.heap.size,0,N⟩),.pointer (Z ⟨w.heap.size+1+1+1+1,0,N⟩),.pointer (Z ⟨w.heap.size+1,0,N⟩),.pointer (Z ⟨w.heap.size+1+1+1+1+1,0,N⟩),.pointer (Z ⟨w.heap.size+1+1,0,N⟩)]]:=Box.new _ _ _ L;have al:∀(W:Wv)(o:Obj),By W (W.alloc o):=λW o=>ba _ _
 have d:=al ((w).alloc (.cells #[H A0 n0 k0,H A1 n1 k1,H A2 n2 k2] 28)) (.cells #[.bool false] 4);have e:=al (((w).alloc (.cells #[H A0 n0 k0,H A1 n1 k1,H A2 n2 k2] 28)).alloc (.cells #[.bool false] 4)) (.cells #[.bool false] 4);have c:=al ((((w).alloc (.cells #[H A0 n0 k0,H A1 n1 k1,H A2 n2 k2] 28)).alloc (.cells #[.bool false] 4)).alloc (.cells #[.bool false] 4)) (.map #[] 0);have b:=al (((((w).alloc (.cells #[H A0 n0 k0,H A1 n1 k1,H A2 n2 k2] 28)).alloc (.cells #[.bool false] 4)).alloc (.cells #[.bool false] 4)).alloc (.map #[] 0)) (.cells #[.map (Z (w.heap.size+1+1+1))] 229);have a:=al ((((((w).alloc (.cells #[H A0 n0 k0,H A1 n1 k1,H A2 n2 k2] 28)).alloc (.cells #[.bool false] 4)).alloc (.cells #[.bool false] 4)).alloc (.map #[] 0)).alloc (.cells #[.map (Z (w.heap.size+1+1+1))] 229)) (.cells #[.func (.func 181) #[] #[.pointer (Z ⟨w.heap.size,0,N⟩),.pointer (Z ⟨w.heap.size+1+1+1+1,0,N⟩),.pointer (Z ⟨w.heap.size+1,0,N⟩),.pointer (Z ⟨w.heap.size+1+1+1+1+1,0,N⟩),.pointer (Z ⟨w.heap.size+1+1,0,N⟩)]] 147);refine⟨⟨?_,?_,?_,?_,?_,?_⟩,?_⟩
 ·exact((((bb f d).below e (bb f d).lt).below c oT_).below b oT_).below a oT_
 ·exact(((bb g e).below c oT_).below b oT_).below a oT_
 ·exact((bb h c).below b oT_).below a oT_
 ·exact(i.below b).below a
 ·exact bb j a
 ·exact k
 exact(((((ba _ _).alloc L _).alloc oT_ _).alloc oT_ _).alloc oT_ _).alloc oT_ _
theorem SK(A0:Oa)(n0 k0:Nat)(A1:Oa)(n1 k1:Nat)(A2:Oa)(n2 k2:Nat)(ms:List Mp)(w:Wv)(hA:Mps w A1 ms)(hn:ms.length=n1)(hst:StF ms)(hco:gG ms)(hh:dG ms)(hbig:n1<=1048576):
  Calls prog 144 #[.agg #[H A0 n0 k0,H A1 n1 k1,H A2 n2 k2]] w (GY ms w):=by
 subst hn;have SZ:=G (YV A0 n0 k0 A1 k1 A2 n2 k2 w.heap.size ms w rfl hA hst hco hbig);have OK:=G (λmk c g=>kH.of (mk:=mk) (cyc:=c) (lng:=g) hst hh);have ON:=G (λi(hi:i<ms.length)=>(nB hst hh true hi).trans (if_pos (.inl rfl)));have HH:=G (λi(hi:i<ms.length)=>show hk ms[i].frm=0 from by unfold hk;rw[hh i hi];rfl);have CO:=G (λi(hi:i<ms.length)=>(hco i hi).1);clear hst hco hh;have ae:=@run_makeMap prog;have af:=λ(W:Wv) (a:Addr) (m:Mode) (fn:Fn) (x y:Array Value)=>run_store prog W a (.func fn x y) m rfl
 go_enter func144,ntmps144;go_wp2_with fail;obtain⟨W0,V⟩:=exQ ((((((((w).alloc (.cells #[H A0 n0 k0,H A1 ms.length k1,H A2 n2 k2] 28)).alloc (.cells #[.bool false] 4)).alloc (.cells #[.bool false] 4)).alloc (.map #[] 0)).alloc (.cells #[.map (Z (w.heap.size+1+1+1))] 229)).alloc (.cells #[.func (.func 181) #[] #[.pointer (Z ⟨w.heap.size,0,N⟩),.pointer (Z ⟨w.heap.size+1+1+1+1,0,N⟩),.pointer (Z ⟨w.heap.size+1,0,N⟩),.pointer (Z ⟨w.heap.size+1+1+1+1+1,0,N⟩),.pointer (Z ⟨w.heap.size+1+1,0,N⟩)]] 147)));obtain⟨D,R⟩:=GM A0 n0 k0 A1 ms.length k1 A2 n2 k2 w;rw[V]at D R|-;clear V ae af;have Y:=G D;clear D
 go_loopw [7,13] (λ_ u wr=>∃(i n:Nat)(mk:Int->Option Int)(c g:Bool),i<=ms.length/\u=I J i/\MS A0 n0 k0 A1 ms.length k1 A2 n2 k2 w.heap.size wr n mk c g/\fP (onM ms true) aM mxE mk c g/\(∀x,mk x≠Z (-1))/\n+200*unmarked (fsM ms) mk<=200*ms.length/\
   (∀t,(ht:t<ms.length)->t<i->ms[t].toq≠[]->∃k,mk ms[t].frm=Z k)/\By w wr) (λ_ u _=>ms.length-(intOf u).toNat)
 case atStart=>
  refine⟨0,0,_,false,false,Nat.zero_le _,rfl,Y.o,GI _ _ _,λx h=>(by cases h),?_,λt _ h=>absurd h (Nat.not_lt_zero _),R⟩;have:=FJ (fsM ms) (λ_=>N);unfold fsM at *;rw[List.length_map]at this;omega
 obtain⟨i,n,mk,c,g,hi,rfl,T,S,s,A,z,hb⟩:=hrel;have l:=G T;have K:=G S;have B:=G s;have P:=G A;have M:=G z;clear T S s A z;by_cases hlt:i<ms.length
 ·obtain⟨b,o,rfl,_,q⟩:=(hA.below hb).at hlt
  obtain⟨E,d,c1,c2,c3,_,_⟩:=q i hlt;clear q;have HO:=G (ON.o i hlt);have h0:=HH.o i hlt;have ad:=CO.o i hlt
  have aa:=G (λ(j:Int->Option Int) (he:eV mk j) (hm:ms[i].toq≠[]->∃k,j ms[i].frm=Z k)=>show ∀t,(ht:t<ms.length)->t<i+1->ms[t].toq≠[]->∃k,j ms[t].frm=Z k from λt ht h1 h2=>by
   by_cases e:t=i
   ·subst e;exact hm h2
   ·obtain⟨k,hk⟩:=M.o t ht O h2;exact⟨k,he.old _ _ hk⟩)
  generalize ms[i].frm=f at *;generalize ms[i].toq=toq at *;generalize ms[i].tag=tg at *;have C:By wr (wr.alloc (.cells #[I J f,H E toq.length d,.string tg] 154)):=ba _ _;have X:=tb hb C;have F:=l.o.below C;have p5:(wr.alloc (.cells #[I J f,H E toq.length d,.string tg] 154)).cell? ⟨w.heap.size+1+1+1+1+1,0,N⟩=Z (.func (.func 181) #[] #[.pointer (Z ⟨w.heap.size,0,N⟩),.pointer (Z ⟨w.heap.size+1+1+1+1,0,N⟩),.pointer (Z ⟨w.heap.size+1,0,N⟩),.pointer (Z ⟨w.heap.size+1+1+1+1+1,0,N⟩),.pointer (Z ⟨w.heap.size+1+1,0,N⟩)]):=F.bS.cell rfl;have q5:wr.cell? ⟨w.heap.size+1+1+1+1+1,0,N⟩=Z (.func (.func 181) #[] #[.pointer (Z ⟨w.heap.size,0,N⟩),.pointer (Z ⟨w.heap.size+1+1+1+1,0,N⟩),.pointer (Z ⟨w.heap.size+1,0,N⟩),.pointer (Z ⟨w.heap.size+1+1+1+1+1,0,N⟩),.pointer (Z ⟨w.heap.size+1+1,0,N⟩)]):=l.o.bS.cell rfl
  have CL:=U (Calls prog 181 #[I J f,.pointer (Z ⟨w.heap.size,0,N⟩),.pointer (Z ⟨w.heap.size+1+1+1+1,0,N⟩),.pointer (Z ⟨w.heap.size+1,0,N⟩),.pointer (Z ⟨w.heap.size+1+1+1+1+1,0,N⟩),.pointer (Z ⟨w.heap.size+1+1,0,N⟩)] (wr.alloc (.cells #[I J f,H E toq.length d,.string tg] 154))
    (nM A0 n0 k0 _ ms.length k1 A2 n2 k2 w.heap.size ms f (wr.alloc (.cells #[I J f,H E toq.length d,.string tg] 154)) n mk c)) (SZ.o (2*unmarked (fsM ms) mk+1) f _ n mk c g O ad K.o (λx h=>absurd h (B.o x)) F X (by have:=P.o;omega))
  clear F C;go_wp2_with fail;refine CL.o.mono ?_
  rintro e W ⟨v,n',j,p,r,rfl,hp⟩;have ab:=X.trans hp.bel
  have Q:=U (MS A0 n0 k0 _ ms.length k1 A2 n2 k2 w.heap.size W n' j p r/\fP (onM ms true) aM mxE j p r/\(∀x,j x≠Z (-1))/\n'+200*unmarked (fsM ms) j<=200*ms.length/\(∀t,(ht:t<ms.length)->t<i+1->ms[t].toq≠[]->∃k,j ms[t].frm=Z k)) (⟨hp.st,hp.inv,λx=>by
    cases hx:mk x with
    |none=>exact hp.ext.new x hx
    |some k=>intro h;have:=hp.ext.old x k hx;rw[h]at this;injection this with this;subst this;exact B.o x hx,
   by have:=hp.pot;have:=P.o;omega,aa.o j hp.ext (λhne=>hp.mkd toq HO.o hne)⟩)
  clear hp CL p5 q5;go_wp2;go_roundw
  case rel=>exact⟨i+1,n',j,p,r,O,oN_,Q.o.1,Q.o.2.1,Q.o.2.2.1,Q.o.2.2.2.1,Q.o.2.2.2.2,ab⟩
  exact oI_
 obtain rfl:i=ms.length:=O;have MO:=G (OK.o mk c g K.o B.o (λt ht h=>M.o t ht ht h));have e1:wr.cell? ⟨w.heap.size+1,0,N⟩=Z (.bool c):=l.o.bC.cell rfl;have e2:wr.cell? ⟨w.heap.size+1+1,0,N⟩=Z (.bool g):=l.o.bL.cell rfl;have e3:wr.frozen? ⟨w.heap.size+1,0,N⟩=false:=l.o.bC.free 0;have e4:wr.frozen? ⟨w.heap.size+1+1,0,N⟩=false:=l.o.bL.free 0;go_wp2_with fail;go_region
 all_goals
  go_wp2_with fail;(try simp only[Exit.inBlock,Exit.then]);refine bodyPost_ret (WV rfl _ _ _ rfl rfl (zJ _ _ c ?_) (zJ _ _ g ?_)) rfl ?_
  ·go_simp
  ·go_simp
  exact⟨c,g,rfl,MO.o,((hb.setCell L _).setCell oU_ _).drew⟩
end
section
open Go.RowKit
def j_(lo hi c:Int):Int:=if hi<c then -1 else if c<lo then 1 else 0
theorem wR(lo hi v c:Int)(w:Wv):Calls prog 170 #[.agg #[I J lo,I J hi,I J v],I J c] w (aU (j_ lo hi c) w):=by
 unfold j_;by_cases h1:hi<c
 ·rw[if_pos h1]
  go_enter func170,ntmps170;go_wp2;go_ret;exact⟨rfl,ba _ _⟩
 rw[if_neg h1];by_cases h2:c<lo
 ·rw[if_pos h2]
  go_enter func170,ntmps170;go_wp2;go_ret;exact⟨rfl,ba _ _⟩
 rw[if_neg h2];go_enter func170,ntmps170;go_wp2;go_ret;exact⟨rfl,ba _ _⟩
def rK(ss:List Spn)(c:Int)(i:Nat)(found:Bool):Prop:=
 i<=ss.length/\(∀t,(ht:t<ss.length)->t<i->ss[t].hi<c)/\(∀t,(ht:t<ss.length)->i<=t->c<=ss[t].hi)/\found=decide (∃h:i<ss.length,ss[i].lo<=c)
def H_(ss:List Spn)(c:Int)(w:Wv)(e:Ending)(w':Wv):Prop:=∃(i:Nat)(f:Bool),e=.returned (.tuple #[I J i,.bool f])/\rK ss c i f/\By w w'
theorem JV(A:Oa)(n k:Nat)(ss:List Spn)(c:Int)(w:Wv)(hA:bG w A ss)(hn:ss.length=n)(hbig:n<=1099511627776)(hasc:Asc ss):
  Calls prog 169 #[H A n k,I J c,.func (.func 170) #[] #[]] w (H_ ss c w):=by
 subst hn;have x:=G hasc;clear hasc;go_enter func169,ntmps169;go_wp2
 go_loopw [9,10] (λu v wr=>∃i j:Nat,i<=j/\j<=ss.length/\u=I J i/\v=I J j/\(∀t,(ht:t<ss.length)->t<i->ss[t].hi<c)/\(∀t,(ht:t<ss.length)->j<=t->c<=ss[t].hi)/\By w wr)
  (λu v _=>(intOf v).toNat-(intOf u).toNat)
 case atStart=>exact⟨0,ss.length,Nat.zero_le _,Nat.le_refl _,rfl,rfl,λt _ h=>O,λt F V=>O,Below.refl _ _⟩
 obtain⟨i,j,W,hj,rfl,rfl,m,l,d⟩:=hrel;have q:=G m;have p:=G l;clear m l;by_cases hlt:i<j
 ·obtain⟨h,hh,F,V,s⟩:∃h:Nat,((i:Int)+(j:Int))/2=(h:Int)/\i<=h/\h<j/\h<ss.length:=⟨(i+j)/2,O,O,O,O⟩
  obtain⟨b,o,rfl,_,a⟩:=(hA.below d).at s;obtain⟨R,S,T⟩:=a h s;clear a;have M:=G (λt(ht:t<ss.length)(hth:t<h)=>(x.o t h ht s).2 hth);have y:=G (λt(ht:t<ss.length)(hth:h<t)=>(x.o h t s ht).2 hth);have z:=G (λt(ht:t<ss.length)=>(x.o t t ht ht).1);have B:=G (x.o h h s s).1;generalize m:ss[h].lo=lo at *;generalize l:ss[h].hi=hi at *;generalize ss[h].val=v at *;have X:=G m;have E:=G l;have C:=G (wR lo hi v c);clear m l;by_cases hk:hi<c
  ·have r:j_ lo hi c=-1:=by unfold j_;rw[if_pos hk]
   rw[r]at C;clear r;go_wp2_with(go_at_call 170;refine(C.o _).mono ?_;rintro e K ⟨rfl,f⟩);go_roundw
   case rel=>
    refine⟨h+1,j,O,hj,oN_,rfl,λt ht g=>?_,p.o,tb d f⟩;by_cases e:t=h
    ·subst e;rw[E.o];exact hk
    have P:=M.o t ht O;have Q:=B.o;omega
   exact oI_
  have r:0<=j_ lo hi c:=by unfold j_;rw[if_neg hk];split<;>omega
  generalize j_ lo hi c=sc at *;go_wp2_with(go_at_call 170;refine(C.o _).mono ?_;rintro e K ⟨rfl,f⟩);go_roundw
  case rel=>
   refine⟨i,h,F,O,rfl,rfl,q.o,λt ht g=>?_,tb d f⟩;by_cases e:t=h
   ·subst e;rw[E.o];omega
   have P:=y.o t ht O;have Q:=z.o t ht;omega
  exact oI_
 obtain rfl:i=j:=O;by_cases hend:i<ss.length
 ·obtain⟨b,o,rfl,_,a⟩:=(hA.below d).at hend
  obtain⟨R,S,T⟩:=a i hend;clear a;have D:=p.o i hend (Nat.le_refl _)
  have L:=G (show decide (∃h:i<ss.length,ss[i].lo<=c)=(j_ ss[i].lo ss[i].hi c==0) by
   rw[Bool.eq_iff_iff];simp only[decide_eq_true_eq,beq_iff_eq];unfold j_;rw[if_neg O];split
   ·constructor
    ·rintro⟨_,h⟩;omega
    intro h;omega
   ·exact⟨λ_=>rfl,λ_=>⟨hend,O⟩⟩)
  clear D;generalize ss[i].lo=lo at *;generalize ss[i].hi=hi at *;generalize ss[i].val=v at *;have C:=G (wR lo hi v c);generalize j_ lo hi c=sc at *;go_wp2_with(go_at_call 170;refine(C.o _).mono ?_;rintro e K ⟨rfl,f⟩);go_ret2;refine⟨i,_,rfl,⟨hj,q.o,p.o,?_⟩,tb d f⟩;exact L.o.symm
 go_wp2_with fail;go_ret2;refine⟨i,_,rfl,⟨hj,q.o,p.o,?_⟩,d⟩;simp[hend]
theorem rK.cls{ss:List Spn}{c:Int}{i:Nat}{f:Bool}(h:rK ss c i f)(hasc:Asc ss):if f=true then ∃hi:i<ss.length,Go.Proofs.YtkhmjidaeliccaaGreatDoor.cls ss c=ss[i].val else Go.Proofs.YtkhmjidaeliccaaGreatDoor.cls ss c=0:=by
 obtain⟨l,b,d,a⟩:=h;by_cases e:∃g:i<ss.length,ss[i].lo<=c
 ·rw[if_pos (by rw[a];simpa using e)]
  obtain⟨g,hg⟩:=e;exact⟨g,wU ss c i g hasc hg (d i g (Nat.le_refl _))⟩
 rw[if_neg (by rw[a];simpa using e)];refine rY ss c λt ht hc=>?_
 by_cases e1:t<i
 ·have:=b t ht e1;omega
 by_cases e2:t=i
 ·subst e2;exact e ⟨ht,hc.1⟩
 have hi:i<ss.length:=O;have j:=(hasc i t hi ht).2 O;have k:=(hasc i i hi hi).1;exact e ⟨hi,O⟩
theorem rW(A:Oa)(n k:Nat)(ss:List Spn)(c:Int)(w:Wv)(hA:bG w A ss)(hn:ss.length=n)(hbig:n<=1099511627776)(hasc:Asc ss):
  Calls prog 125 #[H A n k,I J c] w (aU (cls ss c) w):=by
 subst hn;have C:=G (JV A ss.length k ss c w hA rfl hbig hasc);have l:=G hasc;clear hasc;go_enter func125,ntmps125;go_wp2_with fail;refine C.o.mono ?_;rintro e r ⟨i,f,rfl,hs,g⟩;have h:=hs.cls l.o;cases f with
 |true=>
  rw[if_pos rfl]at h;obtain⟨hi,d⟩:=h;obtain⟨b,o,rfl,_,a⟩:=(hA.below g).at hi;obtain⟨m,p,q⟩:=a i hi;have j:=G d;clear a hs d;generalize ss[i].val=v at *;go_wp2;go_ret;exact⟨aH j.o.symm,g⟩
 |false=>
  rw[if_neg L]at h;have j:=G h;clear hs h;go_wp2;go_ret;exact⟨aH j.o.symm,g⟩
end
end Go.Proofs.YtkhmjidaeliccaaGreatDoor
