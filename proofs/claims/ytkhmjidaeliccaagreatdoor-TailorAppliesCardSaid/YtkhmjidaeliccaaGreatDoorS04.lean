import Derived.Test.YtkhmjidaeliccaaGreatDoorS03
set_option maxRecDepth 100000
set_option maxHeartbeats 51200000
namespace Go.Proofs.YtkhmjidaeliccaaGreatDoor
open Option renaming none->N,some->Z
open Value renaming int->I,slice->H
open IntKind renaming i64->J
open Go.Proofs.Tryz
section
open Go.RowKit
structure Nrm where
 cls:List Spn
 dec:List Mp
 exc:List Rg
def mp0:Mp:=⟨0,[],.empty⟩
def aD(ms:List Mp)(compat:Bool)(e:Int):Option Nat:=ms.findIdx? (λm=>decide (m.frm=e)&&(compat||decide (m.tag.size=0)))
def kQ(ms:List Mp)(i:Nat):Int:=(ms.getD i mp0).frm
def toM(ms:List Mp)(i:Nat):Li:=(ms.getD i mp0).toq
def aX(ms:List Mp)(compat:Bool)(i:Nat):Bool:=!compat&&decide (¬(ms.getD i mp0).tag.size=0)
def dlM(e:Int):Int:=(Hg.decomp e).length
def onM(ms:List Mp)(compat:Bool)(c:Int):Option (Li):=
 if 4<=Hg.kind c then Z (Hg.decomp c)else(aD ms compat c).map (toM ms)
def mxE:Int:=64
def aM:Int:=65
theorem nI(c:Int)(w:Wv):Calls prog 142 #[I J c] w λe w'=>e=.returned (I J (Hg.kind c))/\w=w':=by
 rcases Hg.cases6 c with⟨a,b,hk⟩|⟨a,b,hk⟩|⟨a,b,hk⟩|⟨a,b,d,hk⟩|⟨a,b,d,hk⟩|⟨a,b,d,f,hk⟩<;>rw[hk]<;>clear hk
 all_goals
  go_enter func142,ntmps142;go_wp2;all_goals(go_ret;exact⟨rfl,rfl⟩)
theorem pX(c:Int)(w:Wv):Calls prog 100 #[I J c] w λe w'=>e=.returned (I J (Hg.kind c))/\w=w':=by
 rcases Hg.cases6 c with⟨a,b,hk⟩|⟨a,b,hk⟩|⟨a,b,hk⟩|⟨a,b,d,hk⟩|⟨a,b,d,hk⟩|⟨a,b,d,f,hk⟩<;>rw[hk]<;>clear hk
 all_goals
  go_enter func100,ntmps100;go_wp2;all_goals(go_ret;exact⟨rfl,rfl⟩)
end
section
open Go.RowKit Go.Maps Go.WideMaps
theorem gU:(prog.info? 77).map (λi=>(i.zero,i.size,i.bytes))=Z (Z (.agg #[I J 0,I J 0,I J 0,.bool false]),4,32):=oK_
theorem cU:(prog.info? 3).map (λi=>(i.zero,i.size,i.bytes))=Z (Z (I J 0),1,8):=oK_
theorem gX(es:List Elt):∀u∈aB Elt.cells es,u.oneCell'=true:=by
 intro u hu;obtain⟨g,_,hg⟩:=List.mem_flatMap.1 hu;simp only[Elt.cells,List.mem_cons,List.not_mem_nil,or_false]at hg;rcases hg with rfl|rfl|rfl|rfl<;>rfl
def jO(es:List Elt)(w:Wv)(e:Ending)(w':Wv):Prop:=∃A c,e=.returned (H A es.length c)/\w'.ownsRow w.heap.size 77 4 (H A es.length c) es.length (aB Elt.cells es)/\By w w'
def fR(zs:Li)(w:Wv)(e:Ending)(w':Wv):Prop:=∃A c,e=.returned (H A zs.length c)/\w'.ownsRow w.heap.size 3 1 (H A zs.length c) zs.length (zs.map (Value.int .i64))/\By w w'
theorem wT(A:Oa)(n k:Nat)(gs:List Elt)(w:Wv)(hA:cM w A gs)(hn:gs.length=n)(hb:n<=1048576):
  Calls prog 36 #[H A n k] w (jO gs w):=by
 subst hn;cases A with
 |none=>
  have hz:gs=[]:=by
   cases gs with
   |nil=>rfl
   |cons z r=>obtain⟨b,o,h,_⟩:=hA.at (m:=0) L;cases h
  subst hz;have e:=λ(W:Wv) n c=>Lib.run_eql_slice_nil (P:=prog) W 54 77 N n c 0 0 underlying54
  go_enter func36,ntmps36;go_wp2;go_ret;exact⟨N,0,rfl,World.ownsRow_nil _ _ _ _,Below.refl _ _⟩
 |some a=>
  have e:=λ(W:Wv) n c=>Lib.run_eql_slice_nil (P:=prog) W 54 77 (Z a) n c 0 0 underlying54
  go_enter func36,ntmps36;go_wp2_with(at_builtin;refine a_ _ _ 54 77 (.agg #[I J 0,I J 0,I J 0,.bool false]) 4 32 rfl rfl underlying54 gU rfl V V rfl (jG [] 77 4 0 w.heap.size rfl rfl (Nat.le_refl _) O) rfl (Sl.alloc hA _) (fY Elt.cells 4 (λ_=>rfl) gs) (gX _) O L ?_;intro i j l d g f _ _;simp only[Nat.zero_add,List.nil_append]at d g);go_ret;exact⟨i,j,rfl,d,(ba _ _).trans f⟩
theorem rX(A:Oa)(n k:Nat)(gs:Li)(w:Wv)(hA:aA w A gs)(hn:gs.length=n)(hb:n<=1048576):
  Calls prog 90 #[H A n k] w (fR gs w):=by
 subst hn;cases A with
 |none=>
  have hz:gs=[]:=by
   cases gs with
   |nil=>rfl
   |cons z r=>obtain⟨b,o,h,_⟩:=hA.at (k:=0) L;cases h
  subst hz;have e:=λ(W:Wv) n c=>Lib.run_eql_slice_nil (P:=prog) W 33 3 N n c 0 0 underlying33
  go_enter func90,ntmps90;go_wp2;go_ret;exact⟨N,0,rfl,World.ownsRow_nil _ _ _ _,Below.refl _ _⟩
 |some a=>
  have e:=λ(W:Wv) n c=>Lib.run_eql_slice_nil (P:=prog) W 33 3 (Z a) n c 0 0 underlying33
  go_enter func90,ntmps90;go_wp2_with(at_builtin;refine a_ _ _ 33 3 (I J 0) 1 8 rfl rfl underlying33 cU rfl V V rfl (jG [] 3 1 0 w.heap.size rfl rfl (Nat.le_refl _) O) rfl (Sl.alloc hA _) L (cJ _) O L ?_;intro i j l d g f _ _;simp only[Nat.zero_add,List.nil_append]at d g);go_ret;exact⟨i,j,rfl,d,(ba _ _).trans f⟩
end
section
open Go.RowKit
theorem mZ{c:Int}(h:Hg.kind c=4):0xAC00<=c/\c<=0xD7A3/\(c-0xAC00)%28=0:=by rcases Hg.cases6 c with a|a|a|a|a|a<;>omega
theorem m_{c:Int}(h:Hg.kind c=5):0xAC00<=c/\c<=0xD7A3/\¬(c-0xAC00)%28=0:=by rcases Hg.cases6 c with a|a|a|a|a|a<;>omega
def kI(zs:Li)(w:Wv)(e:Ending)(w':Wv):Prop:=∃A c,e=.returned (H A zs.length c)/\zs.length<=c/\aA w' A zs/\By w w'
theorem mB{c:Int}(h:Hg.kind c<4):Hg.decomp c=[c]:=by unfold Hg.decomp;rw[if_pos h]
theorem pC{c:Int}(h:Hg.kind c=4):Hg.decomp c=[0x1100+(c-0xAC00)/28/21,0x1161+(c-0xAC00)/28%21]:=by
 unfold Hg.decomp;rw[if_neg O,if_pos (mZ h).2.2]
theorem pD{c:Int}(h:Hg.kind c=5):Hg.decomp c=[0x1100+(c-0xAC00)/28/21,0x1161+(c-0xAC00)/28%21,0x11A8+(c-0xAC00)%28-1]:=by
 unfold Hg.decomp;rw[if_neg O,if_neg (m_ h).2.2]
def qW(x y z:Int)(w:Wv)(e:Ending)(w':Wv):Prop:=e=.returned (.agg #[I J x,I J y,I J z])/\By w w'
theorem UU(c:Int)(w:Wv)(h:Hg.kind c<4):Calls prog 190 #[I J c] w (qW 0 0 0 w):=by
 go_enter func190,ntmps190;go_wp2_with(go_at_call 142;refine(nI _ _).mono ?_;rintro e a ⟨rfl,rfl⟩);refine bodyPost_ret (v:=.agg #[I J 0,I J 0,I J 0]) (by simp[results,results190,go_sem]) rfl ⟨rfl,?_⟩;exact ba _ _
theorem UQ(c:Int)(w:Wv)(h:Hg.kind c=4):Calls prog 190 #[I J c] w (qW (0x1100+(c-0xAC00)/28/21) (0x1161+(c-0xAC00)/28%21) 0 w):=by
 obtain⟨a,b,d⟩:=mZ h;go_enter func190,ntmps190;go_wp2_with(go_at_call 142;refine(nI _ _).mono ?_;rintro e f ⟨rfl,rfl⟩);refine bodyPost_ret (v:=.agg #[I J (0x1100+(c-0xAC00)/28/21),I J (0x1161+(c-0xAC00)/28%21),I J 0]) (by simp[results,results190,go_sem]) rfl ⟨rfl,?_⟩;exact(ba _ _).alloc L _
theorem UR(c:Int)(w:Wv)(h:Hg.kind c=5):Calls prog 190 #[I J c] w (qW (0x1100+(c-0xAC00)/28/21) (0x1161+(c-0xAC00)/28%21) (0x11A8+(c-0xAC00)%28-1) w):=by
 obtain⟨b,d,a⟩:=m_ h;have f:0<(c-0xAC00)%28:=O;clear a;go_enter func190,ntmps190;go_wp2_with(go_at_call 142;refine(nI _ _).mono ?_;rintro e g ⟨rfl,rfl⟩);refine bodyPost_ret (v:=.agg #[I J (0x1100+(c-0xAC00)/28/21),I J (0x1161+(c-0xAC00)/28%21),I J (0x11A8+(c-0xAC00)%28-1)]) (by simp[results,results190,go_sem]) rfl ⟨rfl,?_⟩;exact(ba _ _).alloc L _
theorem GJ(c:Int)(w:Wv):Calls prog 163 #[I J c] w (kI (Hg.decomp c) w):=by
 obtain⟨j,hi,d,a,f⟩:=info_parts cU;have l:=λW x y z x' y' z'=>YG (P:=prog) W 9998 145 3 .i64 j underlying145 underlying3 hi a x y z x' y' z'
 clear hi d a f;by_cases h:Hg.kind c<4
 ·rw[mB h]
  have H:=G (λW=>UU c W h);clear h;go_enter func163,ntmps163;go_wp2_with(go_at_call 190;refine(H.o _).mono ?_;rintro e g ⟨rfl,hb⟩);go_ret;exact⟨_,_,rfl,Nat.le_refl _,fI _ [_] _ L,(hb.alloc hb.size _).alloc (by have:=hb.size;simp;omega) _⟩
 by_cases h4:Hg.kind c=4
 ·rw[pC h4]
  have hc:=mZ h4;have i:(0x1100+(c-0xAC00)/28/21==0)=false:=oU_;have H:=G (λW=>UQ c W h4);clear h h4 hc;generalize 0x1100+(c-0xAC00)/28/21=x at *;generalize 0x1161+(c-0xAC00)/28%21=y at *;go_enter func163,ntmps163;go_wp2_with(go_at_call 190;refine(H.o _).mono ?_;rintro e g ⟨rfl,hb⟩);go_ret;exact⟨_,_,rfl,Nat.le_refl _,fI _ [_,_] _ L,(hb.alloc hb.size _).alloc (by have:=hb.size;simp;omega) _⟩
 have b:Hg.kind c=5:=by have:=Hg.kind_range c;omega
 rw[pD b];have hc:=m_ b;have i:(0x1100+(c-0xAC00)/28/21==0)=false:=oU_;have k:(0x11A8+(c-0xAC00)%28-1==0)=false:=oU_;have H:=G (λW=>UR c W b);clear h h4 b hc;generalize 0x1100+(c-0xAC00)/28/21=x at *;generalize 0x1161+(c-0xAC00)/28%21=y at *;generalize 0x11A8+(c-0xAC00)%28-1=z at *;go_enter func163,ntmps163;go_wp2_with(go_at_call 190;refine(H.o _).mono ?_;rintro e g ⟨rfl,hb⟩);go_ret;exact⟨_,_,rfl,Nat.le_refl _,fI _ [_,_,_] _ L,(hb.alloc hb.size _).alloc (by have:=hb.size;simp;omega) _⟩
theorem BT(c:Int)(w:Wv):Calls prog 152 #[I J c] w (kI (Hg.decomp c) w):=by
 obtain⟨p,hi,l,m,n⟩:=info_parts cU;by_cases h:Hg.kind c<4
 ·rw[mB h]
  go_enter func152,ntmps152;go_wp2_with(go_at_call 100;refine(pX _ _).mono ?_;rintro e g ⟨rfl,rfl⟩);go_ret;exact⟨_,_,rfl,Nat.le_refl _,fI _ [_] _ L,ba _ _⟩
 by_cases h4:Hg.kind c=4
 ·rw[pC h4]
  obtain⟨i,j,f⟩:=mZ h4;have a:=G (λW=>pX c W);rw[h4]at a;clear h h4;go_enter func152,ntmps152;go_wp2_with(go_at_call 100;refine(a.o _).mono ?_;rintro e g ⟨rfl,rfl⟩);go_ret;exact⟨_,_,rfl,Nat.le_refl _,fI _ [_,_] _ L,ba _ _⟩
 have d:Hg.kind c=5:=by have:=Hg.kind_range c;omega
 rw[pD d];obtain⟨i,j,f⟩:=m_ d;have o:0<(c-0xAC00)%28:=O;have a:=G (λW=>pX c W);rw[d]at a;clear h h4 d f;go_enter func152,ntmps152
 go_wp2_with(first
  |(go_at_call 100;refine(a.o _).mono ?_;rintro e g ⟨rfl,rfl⟩)
  | (at_builtin;refine a_ _ _ 33 3 (I J 0) 1 8 rfl rfl underlying33 cU rfl V V rfl ((jG [_,_] 3 1 2 w.heap.size rfl rfl (Nat.le_refl _) O).alloc _) rfl (bI _ [_] _ L) rfl (cJ [_]) O oT_ ?_;intro B k q b hk hb _ _))
 go_ret;exact⟨_,_,rfl,hk,Sl.of_own b,((ba _ _).alloc L _).trans hb⟩
end
section
open Go.RowKit Go.Maps Go.WideMaps
section
variable {ms:List Mp}
theorem AV{k:Nat}(hk:k<ms.length)(h:dF ms[k]=true):cX ms=1:=by unfold cX;rw[if_pos (iP hk h)]
theorem AW(h1:∀t,(ht:t<ms.length)->dF ms[t]=false){k:Nat}(hk:k<ms.length)(h:64<ms[k].toq.length):cX ms=2:=by
 unfold cX;rw[if_neg (by rw[fV h1];simp),if_pos (iP hk (by simpa using h))]
theorem AZ(h1:∀t,(ht:t<ms.length)->dF ms[t]=false)(h2:∀t,(ht:t<ms.length)->¬64<ms[t].toq.length){k:Nat}(hk:k<ms.length)(h:eY ms[k]=true):cX ms=6:=by
 unfold cX;rw[if_neg (by rw[fV h1];simp),if_neg (by rw[fV (λt ht=>by simpa using h2 t ht)];simp),if_pos (iP hk h)]
theorem AU(h1:∀t,(ht:t<ms.length)->dF ms[t]=false)(h2:∀t,(ht:t<ms.length)->¬64<ms[t].toq.length)(h3:∀t,(ht:t<ms.length)->eY ms[t]=false):cX ms=0:=by
 unfold cX;rw[if_neg (by rw[fV h1];simp),if_neg (by rw[fV (λt ht=>by simpa using h2 t ht)];simp),if_neg (by rw[fV h3];simp)]
theorem UV(h:cX ms=0):∀m∈ms,dF m=false/\m.toq.length<=64/\eY m=false:=by
 unfold cX at h;split at h
 ·cases h
 next h1=>
 split at h
 ·cases h
 next h2=>
 split at h
 ·cases h
 next h3=>
 intro m hm;simp only[Bool.not_eq_true,List.any_eq_false]at h1 h2 h3;have a:=h1 m hm;have b:=h2 m hm;have c:=h3 m hm;refine⟨by simpa using a,?_,by simpa using c⟩;simp at b;exact b
end
theorem zR{m:Mp}(h:inR 0 1114111 m.frm=false):dF m=true:=by unfold dF;rw[h];rfl
theorem zT{m:Mp}{k:Nat}(hk:k<m.toq.length)(h:inR 0 1114111 m.toq[k]=false):dF m=true:=by
 unfold dF;rw[Bool.or_eq_true];right;exact iP hk (by rw[h];rfl)
theorem zS{m:Mp}(h0:inR 0 1114111 m.frm=true)(h:∀t,(ht:t<m.toq.length)->inR 0 1114111 m.toq[t]=true):dF m=false:=by
 unfold dF;rw[h0,fV (λt ht=>by rw[h t ht];rfl)];rfl
theorem S_{m:Mp}(h:dF m=false):(0<=m.frm/\m.frm<=1114111)/\∀z∈m.toq,0<=z/\z<=1114111:=by
 unfold dF at h;rw[Bool.or_eq_false_iff]at h;refine⟨iU.1 (by simpa using h.1),λz hz=>?_⟩;have:=List.any_eq_false.1 h.2 z hz;exact iU.1 (by simpa using this)
theorem zAi{m:Mp}(h:eY m=false):m.tag.size<=32:=by
 unfold eY at h;by_cases h0:m.tag.size=0
 ·omega
 have:cF m.tag=true:=by simpa[h0]using h
 unfold cF at this;simp at this;omega
theorem EV{m:Mp}(h:m.tag.size=0):eY m=false:=by unfold eY;simp[h]
theorem EW{m:Mp}(h:¬m.tag.size=0):eY m=!cF m.tag:=by unfold eY;simp[h]
theorem UT(A:Oa)(n a:Nat)(ms:List Mp)(w:Wv)(hA:Mps w A ms)(hn:ms.length=n)(hz:lW ms):
  Calls prog 176 #[H A n a] w (aU (cX ms) w):=by
 subst hn;have V:=G hA;have ax:=hz.n;have HZ:=G hz.e;have P1:=G (λk hk h=>AV (ms:=ms) (k:=k) hk h);have P2:=G (λh1 k hk h=>AW (ms:=ms) h1 (k:=k) hk h);have P6:=G (λh1 h2 k hk h=>AZ (ms:=ms) h1 h2 (k:=k) hk h);have P0:=G (AU (ms:=ms));clear hA hz;generalize cX ms=R at *;go_enter func176,ntmps176;go_wp2;go_loopw [13] (λu wr=>∃i:Nat,i<=ms.length/\u=I J i/\(∀t,(ht:t<ms.length)->t<i->dF ms[t]=false)/\By w wr) (λu _=>ms.length-(intOf u).toNat)
 case atStart=>exact⟨0,Nat.zero_le _,rfl,λt _ h=>O,Below.refl _ _⟩
 obtain⟨i,hi,rfl,g,c⟩:=hrel;have f:=G g;clear g;by_cases hlt:i<ms.length
 ·obtain⟨b1,o1,rfl,x,b⟩:=(V.o.below c).at hlt
  obtain⟨C,cc,c0,c1,c2,B,p⟩:=b i hlt;obtain⟨z1,Q⟩:=HZ.o i hlt;have j:=G (λh=>P1.o i hlt h);have l:=G (λh=>dI (P:=λm=>dF m=false) hlt f.o h);clear b;generalize ms[i]=mi at *;have M0:=G (zR (m:=mi));have M1:=G (λk hk h=>zT (m:=mi) (k:=k) hk h);have M2:=G (zS (m:=mi));generalize dF mi=bd at *;obtain⟨mf,mt,mg⟩:=mi;dsimp only at *;have S:By wr (wr.alloc (.cells #[I J mf,H C mt.length cc,.string mg] 154)):=ba _ _;have r:=G (p.below S);have d:=c.trans (S.mono c.size);have e1:(wr.alloc (.cells #[I J mf,H C mt.length cc,.string mg] 154)).cell? ⟨wr.heap.size,1,N⟩=Z (H C mt.length cc):=L;have E1:=G e1;have ab:∃Wa,(wr.alloc (.cells #[I J mf,H C mt.length cc,.string mg] 154))=Wa:=⟨_,rfl⟩;clear p e1;cases hv:inR 0 1114111 mf with
  |false=>
   obtain rfl:=M0.o hv;have Y:=G (j.o rfl);go_wp2_with(go_at_call 129;refine(jS mf _).mono ?_;rw[hv];rintro e E ⟨rfl,rfl⟩);go_ret;exact⟨aH Y.o.symm,d⟩
  |true=>
   go_wp2_with(go_at_call 129;refine(jS mf _).mono ?_;rw[hv];rintro e E ⟨rfl,rfl⟩);obtain⟨Wa,v⟩:=ab;rw[v]at S r d E1|-;clear v c0 c1 c2;obtain⟨F,rfl⟩:∃F:Wv,F=wr:=⟨_,rfl⟩;go_loop [24] (λu=>∃k:Nat,k<=mt.length/\u=I J k/\(∀t,(ht:t<mt.length)->t<k->inR 0 1114111 mt[t]=true)) (λu=>mt.length-(intOf u).toNat)
   case atStart=>exact⟨0,Nat.zero_le _,rfl,λt _ h=>O⟩
   obtain⟨k,hk,rfl,D⟩:=hrel;have s:=G D;clear D;by_cases hltk:k<mt.length
   ·obtain⟨b2,o2,rfl,y⟩:=r.o.at hltk
    have d0:=y k hltk;have W:=G (λh=>M1.o k hltk h);have X:=G (λh=>dI (P:=λz=>inR 0 1114111 z=true) hltk s.o h);clear y;generalize mt[k]=z at *;cases hvz:inR 0 1114111 z with
    |false=>
     obtain rfl:=W.o hvz;have Y:=G (j.o rfl);go_wp2_with(go_at_call 129;refine(jS z _).mono ?_;rw[hvz];rintro e E ⟨rfl,rfl⟩);go_ret;exact⟨aH Y.o.symm,d⟩
    |true=>
     have o:=G (X.o hvz);go_wp2_with(go_at_call 129;refine(jS z _).mono ?_;rw[hvz];rintro e E ⟨rfl,rfl⟩);go_round
     case rel=>exact⟨k+1,O,oN_,o.o⟩
     exact oI_
   obtain rfl:=M2.o hv (λt ht=>s.o t ht O);have o:=G (l.o rfl);go_wp2;go_roundw
   case rel=>exact⟨i+1,O,oN_,o.o,d⟩
   exact oI_
 have T:=G (λt(ht:t<ms.length)=>f.o t ht O);clear f P1;go_wp2;go_loopw [35] (λu wr=>∃i:Nat,i<=ms.length/\u=I J i/\(∀t,(ht:t<ms.length)->t<i->¬64<ms[t].toq.length)/\By w wr) (λu _=>ms.length-(intOf u).toNat)
 case atStart=>exact⟨0,Nat.zero_le _,rfl,λt _ h=>O,c⟩
 obtain⟨i,hi,rfl,g,c⟩:=hrel;have f:=G g;clear g;by_cases hlt:i<ms.length
 ·obtain⟨b1,o1,rfl,x,b⟩:=(V.o.below c).at hlt
  obtain⟨C,cc,c0,c1,c2,B,p⟩:=b i hlt;obtain⟨z1,Q⟩:=HZ.o i hlt;have j:=G (λh=>P2.o T.o i hlt h);have l:=G (λh=>dI (P:=λm:Mp=>¬64<m.toq.length) hlt f.o h);clear b p;generalize ms[i]=mi at *;obtain⟨mf,mt,mg⟩:=mi;dsimp only at *;have d:=c.trans (((Below.refl wr.heap.size wr).alloc (Nat.le_refl _) (.cells #[I J mf,H C mt.length cc,.string mg] 154)).mono c.size);by_cases h64:64<mt.length
  ·have q1:decide ((64:Int)<(mt.length:Int))=true:=oU_
   obtain rfl:=j.o h64;go_wp2;go_ret;exact⟨rfl,d⟩
  have q1:decide ((64:Int)<(mt.length:Int))=false:=oU_;have o:=G (l.o h64);go_wp2;go_roundw
  case rel=>exact⟨i+1,O,oN_,o.o,d⟩
  exact oI_
 have H2:=G (λt(ht:t<ms.length)=>f.o t ht O);clear f P2;go_wp2;go_loopw [46] (λu wr=>∃i:Nat,i<=ms.length/\u=I J i/\(∀t,(ht:t<ms.length)->t<i->eY ms[t]=false)/\By w wr) (λu _=>ms.length-(intOf u).toNat)
 case atStart=>exact⟨0,Nat.zero_le _,rfl,λt _ h=>O,c⟩
 obtain⟨i,hi,rfl,g,c⟩:=hrel;have f:=G g;clear g;by_cases hlt:i<ms.length
 ·obtain⟨b1,o1,rfl,x,b⟩:=(V.o.below c).at hlt
  obtain⟨C,cc,c0,c1,c2,B,p⟩:=b i hlt;obtain⟨z1,Q⟩:=HZ.o i hlt;have j:=G (λh=>P6.o T.o H2.o i hlt h);have l:=G (λh=>dI (P:=λm:Mp=>eY m=false) hlt f.o h);clear b p;generalize ms[i]=mi at *;have K:=G (EV (m:=mi));have M:=G (EW (m:=mi));generalize eY mi=tb at *;obtain⟨mf,mt,mg⟩:=mi;dsimp only at *;have d:=c.trans (((Below.refl wr.heap.size wr).alloc (Nat.le_refl _) (.cells #[I J mf,H C mt.length cc,.string mg] 154)).mono c.size);by_cases hg:mg.size=0
  ·have g0:mg.toList=[]:=iH hg
   have o:=G (l.o (K.o hg));clear K M j l;go_wp2;go_roundw
   case rel=>exact⟨i+1,O,oN_,o.o,d⟩
   exact oI_
  have g0:¬mg.toList=[]:=iG hg;have g1:mg.toList.isEmpty=false:=by simpa using g0
  have q:=M.o hg;cases hnm:cF mg with
  |true=>
   rw[hnm]at q;have o:=G (l.o q);clear q K M j l;go_wp2_with(go_at_call 194;refine(zM mg _ Q).mono ?_;rw[hnm];rintro e E ⟨rfl,rfl⟩);go_roundw
   case rel=>exact⟨i+1,O,oN_,o.o,d⟩
   exact oI_
  |false=>
   rw[hnm]at q;obtain rfl:=j.o q;clear q K M j l;go_wp2_with(go_at_call 194;refine(zM mg _ Q).mono ?_;rw[hnm];rintro e E ⟨rfl,rfl⟩);go_ret;exact⟨rfl,d⟩
 obtain rfl:=P0.o T.o H2.o (λt ht=>f.o t ht O);go_wp2;go_ret;exact⟨rfl,c⟩
theorem JF{ms:List Mp}{i:Nat}(h1:1<=i)(hi:i<ms.length):dQ (ms.take (i+1))=(dQ (ms.take i)&&decide (dU (ms[i-1]'(by omega)) ms[i]<0)):=by
 induction ms generalizing i with
 |nil=>simp at hi
 |cons a r ih=>
  cases r with
  |nil=>simp at hi;omega
  |cons b r=>
   by_cases e:i=1
   ·subst e;simp[dQ]
   obtain⟨j,rfl⟩:∃j,i=j+2:=⟨i-2,O⟩;have:=ih (i:=j+1) O (by simpa using hi);simp only[List.take_succ_cons,dQ]at this|-;rw[this,Bool.and_assoc];simp
theorem JE{ms:List Mp}{i:Nat}(h:i<=1):dQ (ms.take i)=true:=by
 match i,ms with
 |0,_=>rfl
 |1,[]=>rfl
 |1,_::_=>rfl
section
variable {ms:List Mp}
theorem SI(h:cX ms≠0):cH ms=cX ms:=by unfold cH;rw[if_pos h]
theorem RU(h:cX ms=0)(ha:dQ ms=true):cH ms=0:=by unfold cH;rw[if_neg (by simpa using h),if_pos ha]
theorem RW(h:cX ms=0)(ha:dQ ms=false)(hd:¬(ms.map aY).Nodup):cH ms=5:=by unfold cH;rw[if_neg (by simpa using h),if_neg (by simp[ha]),if_neg hd]
theorem RV(h:cX ms=0)(ha:dQ ms=false)(hd:(ms.map aY).Nodup):cH ms=4:=by unfold cH;rw[if_neg (by simpa using h),if_neg (by simp[ha]),if_pos hd]
def kms(ms:List Mp)(k:Nat):List (Int×ByteArray):=(ms.take k).map aY
theorem tL{k:Nat}(hk:k<ms.length):kms ms (k+1)=kms ms k++[aY ms[k]]:=by
 unfold kms;rw[List.take_succ_eq_append_getElem hk,List.map_append];rfl
theorem QT{k:Nat}(hk:k<ms.length)(h:aY ms[k]∈kms ms k):¬(ms.map aY).Nodup:=by
 intro hn;have hs:(kms ms (k+1)).Sublist (ms.map aY):=by unfold kms;exact(List.take_sublist _ _).map _
 have a:=hn.sublist hs;rw[tL hk,List.nodup_append]at a;exact a.2.2 _ h _ (List.mem_singleton.2 rfl) rfl
theorem QU{k:Nat}(hk:k<ms.length)(hn:(kms ms k).Nodup)(h:aY ms[k] ∉ kms ms k):(kms ms (k+1)).Nodup:=by
 rw[tL hk,List.nodup_append];refine⟨hn,L,λa ha b hb e=>?_⟩;rw[List.mem_singleton]at hb;subst hb;subst e;exact h ha
theorem QR{m:Mp}(h1:dF m=false)(h2:eY m=false):mok (aY m):=by
 have a:=(S_ h1).1;have b:=zAi h2;refine⟨?_,by unfold maxLen;show m.tag.size<=_;omega⟩;exact qJ (by show _<=m.frm;omega) (by show m.frm<=_;omega)
end
theorem RX(A:Oa)(n a:Nat)(ms:List Mp)(w:Wv)(hA:Mps w A ms)(hn:ms.length=n)(hz:lW ms):
  Calls prog 140 #[H A n a] w (aU (cH ms) w):=by
 subst hn;have PC:=G (UT A ms.length a ms w hA rfl hz);have HA:=G hA;have b6:=hz.n;have EP:=G (SI (ms:=ms));have E0:=G (RU (ms:=ms));have E4:=G (RV (ms:=ms));have E5:=G (RW (ms:=ms));have V:=G (UV (ms:=ms));have b5:=@run_makeMap prog;clear hA hz;generalize cH ms=R at *;generalize cX ms=pe at *;go_enter func140,ntmps140;go_wp2_with fail;refine PC.o.mono ?_
 rintro e W1 ⟨rfl,ae⟩;clear PC;by_cases hpe:pe=0;rotate_left
 ·have q1:(pe !=0)=true:=by simpa using hpe
  obtain rfl:=EP.o hpe;clear hpe EP E0 E4 E5;go_wp2;go_ret;exact⟨rfl,ae⟩
 have q1:(pe !=0)=false:=by simpa using hpe
 have K:=G (E0.o hpe);have r:=G (E4.o hpe);have s:=G (E5.o hpe);have OK:=G (λi(hi:i<ms.length)=>V.o hpe ms[i] (List.getElem_mem hi));have A1:=G (JE (ms:=ms) (i:=1) O);clear EP E0 E4 E5 V hpe;go_wp2;go_loopw [4,5] (λv u wr=>∃i:Nat,1<=i/\(i<=ms.length\/i=1)/\u=I J i/\v=.bool (dQ (ms.take i))/\By w wr) (λ_ u _=>ms.length-(intOf u).toNat)
 case atStart=>exact⟨1,O,.inr rfl,rfl,by rw[A1.o],ae⟩
 obtain⟨i,bc,b4,rfl,rfl,l⟩:=hrel;by_cases hlt:i<ms.length
 ·obtain⟨c,d,rfl,j,b⟩:=(HA.o.below l).at hlt
  obtain⟨C,cc,c0,c1,c2,_,_⟩:=b i hlt;obtain⟨D,dd,d0,d1,d2,_,_⟩:=b (i-1) O;have HT:=G (JF bc hlt);have MC:=G (λW=>RY (ms[i-1]' O) ms[i] (H D (ms[i-1]' O).toq.length dd) (H C ms[i].toq.length cc) W);clear b;generalize dU (ms[i-1]' O) ms[i]=cv at *;generalize (ms[i-1]' O)=ma at *;generalize ms[i]=mb at *;obtain⟨af,bb,ag⟩:=ma;obtain⟨bf,Y,bg⟩:=mb;dsimp only at *;generalize bb.length=al at *;generalize Y.length=bl' at *;have i1:(0:Int)<=(i:Int)-1:=O;have i2:(i:Int)-1<(ms.length:Int):=O;have i3:((i:Int)-1).toNat=i-1:=O;have i4:(i:Int)<(ms.length:Int):=O;have i5:(0:Int)<=(i:Int):=O;have i6:(1:Int)<=(i:Int):=O;have w1:IntKind.i64.wrap ((i:Int)-1)=(i:Int)-1:=IntWalk.i64_in _ O;have KS:=U (∀W',By wr W'->W'.cell? ⟨c,d+(i-1)*3,N⟩=Z (I J af)/\W'.cell? ⟨c,d+(i-1)*3+1,N⟩=Z (H D al dd)/\W'.cell? ⟨c,d+(i-1)*3+2,N⟩=Z (.string ag)/\W'.cell? ⟨c,d+i*3,N⟩=Z (I J bf)/\W'.cell? ⟨c,d+i*3+1,N⟩=Z (H C bl' cc)/\W'.cell? ⟨c,d+i*3+2,N⟩=Z (.string bg)/\By wr W') (λW' hb=>⟨(hb.cell (p:=⟨c,d+(i-1)*3,N⟩) j).trans d0,(hb.cell (p:=⟨c,d+(i-1)*3+1,N⟩) j).trans d1,(hb.cell (p:=⟨c,d+(i-1)*3+2,N⟩) j).trans d2,(hb.cell (p:=⟨c,d+i*3,N⟩) j).trans c0,(hb.cell (p:=⟨c,d+i*3+1,N⟩) j).trans c1,(hb.cell (p:=⟨c,d+i*3+2,N⟩) j).trans c2,hb⟩);have T:=G (λW'(hb:By wr W')=>(MC.o W').mono (R':=λe W'=>e=.returned (I J cv)/\(W'.cell? ⟨c,d+(i-1)*3,N⟩=Z (I J af)/\W'.cell? ⟨c,d+(i-1)*3+1,N⟩=Z (H D al dd)/\W'.cell? ⟨c,d+(i-1)*3+2,N⟩=Z (.string ag)/\W'.cell? ⟨c,d+i*3,N⟩=Z (I J bf)/\W'.cell? ⟨c,d+i*3+1,N⟩=Z (H C bl' cc)/\W'.cell? ⟨c,d+i*3+2,N⟩=Z (.string bg)/\By wr W')) (λe w'⟨he,hb'⟩=>⟨he,KS.o w' (tb hb hb')⟩));go_wp2_with fail;refine wp_region_held_drew (S:=λW'=>W'.cell? ⟨c,d+(i-1)*3,N⟩=Z (I J af)/\W'.cell? ⟨c,d+(i-1)*3+1,N⟩=Z (H D al dd)/\W'.cell? ⟨c,d+(i-1)*3+2,N⟩=Z (.string ag)/\W'.cell? ⟨c,d+i*3,N⟩=Z (I J bf)/\W'.cell? ⟨c,d+i*3+1,N⟩=Z (H C bl' cc)/\W'.cell? ⟨c,d+i*3+2,N⟩=Z (.string bg)/\By wr W') oK_ (KS.o _ (Below.refl _ _).drew) (λf=>?_);refine tK 0 20 ?_;refine tK 1 21 ?_;refine tK 2 22 ?_;refine tK 3 23 ?_;refine tK 4 24 ?_;refine tK 5 25 ?_;refine tK 6 26 ?_;refine tK 7 27 ?_;refine tK 8 28 ?_;refine qK 9 29 (T.o _ f.2.2.2.2.2.2) ?_;clear f;intro W3 f;refine tK 10 30 ?_;refine wpAnyH_done oK_ ?_ _;have Bp:=f.2.2.2.2.2.2;have ah:=tb l Bp;clear f c0 c1 c2 d0 d1 d2 KS MC T i1 i2 i3 i4 i5 i6 w1;by_cases hcv:0<=cv
  ·have q9:decide (0<=cv)=true:=by simpa using hcv
   have ht:=HT.o;rw[show decide (cv<0)=false by simp;omega,Bool.and_false]at ht;have HF:=G ht;clear ht HT;go_wp2;go_roundw
   case rel=>exact⟨i+1,O,.inl O,oN_,by rw[HF.o],ah⟩
   exact oI_
  have q9:decide (0<=cv)=false:=by simpa using hcv
  have ht:=HT.o;rw[show decide (cv<0)=true by simp;omega,Bool.and_true]at ht;have HF:=G ht;clear ht HT;go_wp2;go_roundw
  case rel=>exact⟨i+1,O,.inl O,oN_,by rw[HF.o],ah⟩
  exact oI_
 have q:ms.length<=i:=O;rw[List.take_of_length_le q];cases hasc:dQ ms with
 |true=>
  obtain rfl:=K.o hasc;clear r s hasc;go_wp2;go_ret;exact⟨rfl,l⟩
 |false=>
  have M:=G (r.o hasc);have P:=G (s.o hasc);clear K r s hasc q;have B2:By wr (wr.alloc (.map #[] 0)):=ba _ _;have M2:=aV.made prog 226 nA mok wr;have s2:(wr.alloc (.map #[] 0)).heap.size=wr.heap.size+1:=L;have a8:∃W2,wr.alloc (.map #[] 0)=W2:=⟨_,rfl⟩;have ay:=G (HA.o.below l);obtain⟨X,rfl⟩:∃X:Wv,X=wr:=⟨_,rfl⟩;go_wp2_with fail;obtain⟨W2,ab⟩:=a8;rw[ab]at B2 M2 s2|-;clear ab;have Q:=G M2;clear M2;go_loopw [35] (λu wr=>∃i:Nat,i<=ms.length/\u=I J i/\(kms ms i).Nodup/\aV prog 226 nA mok wr X.heap.size i (kV (kms ms i))/\By X wr/\X.heap.size<wr.heap.size) (λu _=>ms.length-(intOf u).toNat)
  case atStart=>exact⟨0,Nat.zero_le _,rfl,by simp[kms],Q.o.ext (λx _=>by simp[kms,kV]),B2,O⟩
  obtain⟨i,hi,rfl,k,hM,z,b7⟩:=hrel;have t:=G k;have HM:=G hM;clear k hM Q;by_cases hlt:i<ms.length
  ·obtain⟨c,d,rfl,j,b⟩:=(ay.o.below z).at hlt
   obtain⟨C,cc,c0,c1,c2,_,_⟩:=b i hlt;obtain⟨ak,_,am⟩:=OK.o i hlt;have g:=G (QR ak am);have HD:=G (λh=>P.o (QT hlt h));have HN:=G (λh=>QU hlt t.o h);have HE:=G (tL hlt);have KO:=G (λW=>R_ ms[i] (H C ms[i].toq.length cc) W);clear b ak am;generalize aY ms[i]=kx at *;generalize ms[i]=mi at *;obtain⟨mf,mt,mg⟩:=mi;dsimp only at *;have Ba:By wr (wr.alloc (.cells #[I J mf,H C mt.length cc,.string mg] 154)):=ba _ _;have x0:(wr.alloc (.cells #[I J mf,H C mt.length cc,.string mg] 154)).cell? ⟨wr.heap.size,0,N⟩=Z (I J mf):=L;have x1:(wr.alloc (.cells #[I J mf,H C mt.length cc,.string mg] 154)).cell? ⟨wr.heap.size,1,N⟩=Z (H C mt.length cc):=L;have x2:(wr.alloc (.cells #[I J mf,H C mt.length cc,.string mg] 154)).cell? ⟨wr.heap.size,2,N⟩=Z (.string mg):=L;have sa:(wr.alloc (.cells #[I J mf,H C mt.length cc,.string mg] 154)).heap.size=wr.heap.size+1:=L;have a9:∃Wa,(wr.alloc (.cells #[I J mf,H C mt.length cc,.string mg] 154))=Wa:=⟨_,rfl⟩;go_wp2_with fail;obtain⟨Wa,ad⟩:=a9;rw[ad]at Ba x0 x1 x2 sa|-;clear ad c0 c1 c2;refine(KO.o Wa).mono ?_
   rintro e Wb ⟨rfl,m⟩;have F:wr.heap.size<Wa.heap.size:=O;have y0:=(m.cell (p:=⟨wr.heap.size,0,N⟩) F).trans x0;have y1:=(m.cell (p:=⟨wr.heap.size,1,N⟩) F).trans x1;have y2:=(m.cell (p:=⟨wr.heap.size,2,N⟩) F).trans x2;have sb:=m.size;have Bw:=tb Ba m;have o:=G (HM.o.below Bw);have ai:=tb z Bw;clear x0 x1 x2;by_cases hin:kx∈kms ms i
   ·have HV:=G (YR hin)
    obtain rfl:=HD.o hin;clear HN HD hin;go_wp2_with(at_lookup;refine qL rfl _ _ 224 rfl o.o pQ underlying224 (GC _) rfl rfl g.o (oA g.o) ?_;rw[HV.o]);go_ret;exact⟨rfl,tb l ai⟩
   have HV:=G (YP hin);have HP:=G (λx=>YQ (kms ms i) kx x);have HQ:=G (HN.o hin);clear HN HD hin;go_wp2_with(at_lookup;refine qL rfl _ _ 224 rfl o.o pQ underlying224 (GC _) rfl rfl g.o (oA g.o) ?_;rw[HV.o]);refine(KO.o Wb).mono ?_
   rintro e Wc ⟨rfl,B⟩;have a3:=G (o.o.below B);have aj:=tb ai B;have sc:=B.size;clear y0 y1 y2 o;go_wp2_with(at_mapUpdate;refine oM rfl _ _ _ 224 rfl a3.o pQ underlying224 (by unfold maxLen;omega) rfl rfl rfl g.o (oA g.o) (λy hy e=>SW hy g.o e) ?_;intro w9 aa E;have a2:=G aa;have a1:=G E;have sg:=E.size;clear aa E);go_roundw
   case rel=>exact⟨i+1,O,oN_,HQ.o,by rw[HE.o];exact a2.o.ext (λx _=>HP.o x),lA aj a1.o (Nat.le_refl _) aj.size,O⟩
   exact oI_
  have k:=t.o;unfold kms at k;rw[List.take_of_length_le (show ms.length<=i by omega)]at k;obtain rfl:=M.o k;clear k t;go_wp2;go_ret;exact⟨rfl,tb l z⟩
theorem VT(m:Mp)(C:Oa)(cc:Nat)(w:Wv)(hC:aA w C m.toq)(hz:m.toq.length<=1048576):
  Calls prog 183 #[.agg #[I J m.frm,H C m.toq.length cc,.string m.tag]] w (c_ (!dF m) w):=by
 have q:=G (zR (m:=m));have r:=G (λk hk h=>zT (m:=m) (k:=k) hk h);have s:=G (zS (m:=m));generalize dF m=bd at *;obtain⟨mf,mt,mg⟩:=m;dsimp only at *;have a:By w (w.alloc (.cells #[I J mf,H C mt.length cc,.string mg] 154)):=ba _ _;have n:=G (hC.below a);have v:(w.alloc (.cells #[I J mf,H C mt.length cc,.string mg] 154)).cell? ⟨w.heap.size,0,N⟩=Z (I J mf):=L;have x:(w.alloc (.cells #[I J mf,H C mt.length cc,.string mg] 154)).cell? ⟨w.heap.size,1,N⟩=Z (H C mt.length cc):=L;have sa:(w.alloc (.cells #[I J mf,H C mt.length cc,.string mg] 154)).heap.size=w.heap.size+1:=L;have j:∃o,(w.alloc (.cells #[I J mf,H C mt.length cc,.string mg] 154))=o:=⟨_,rfl⟩;clear hC;go_enter func183,ntmps183;go_wp2_with fail;obtain⟨o,c⟩:=j;rw[c]at a n v x sa|-;clear c;go_loop [3] (λu=>∃k:Nat,k<=mt.length/\u=I J k/\(∀t,(ht:t<mt.length)->t<k->inR 0 1114111 mt[t]=true)) (λu=>mt.length-(intOf u).toNat)
 case atStart=>exact⟨0,Nat.zero_le _,rfl,λt _ h=>O⟩
 obtain⟨k,hk,rfl,f⟩:=hrel;have b:=G f;clear f;by_cases hltk:k<mt.length
 ·obtain⟨y,B,rfl,d⟩:=n.o.at hltk
  have A:=d k hltk;have g:=G (λh=>r.o k hltk h);have i:=G (λh=>dI (P:=λz=>inR 0 1114111 z=true) hltk b.o h);clear d;generalize mt[k]=z at *;cases hvz:inR 0 1114111 z with
  |false=>
   obtain rfl:=g.o hvz;go_wp2_with(go_at_call 107;refine(fM z _).mono ?_;rw[hvz];rintro e l ⟨rfl,rfl⟩);go_ret;exact⟨rfl,a⟩
  |true=>
   have p:=G (i.o hvz);go_wp2_with(go_at_call 107;refine(fM z _).mono ?_;rw[hvz];rintro e l ⟨rfl,rfl⟩);go_round
   case rel=>exact⟨k+1,O,oN_,p.o⟩
   exact oI_
 cases hv:inR 0 1114111 mf with
 |false=>
  obtain rfl:=q.o hv;go_wp2_with(go_at_call 107;refine(fM mf _).mono ?_;rw[hv];rintro e l ⟨rfl,rfl⟩);go_ret;exact⟨rfl,a⟩
 |true=>
  obtain rfl:=s.o hv (λt ht=>b.o t ht O);go_wp2_with(go_at_call 107;refine(fM mf _).mono ?_;rw[hv];rintro e l ⟨rfl,rfl⟩);go_ret;exact⟨rfl,a⟩
theorem VS(a b:Mp)(va vb:Value)(w:Wv):
  Calls prog 149 #[.agg #[I J a.frm,va,.string a.tag],.agg #[I J b.frm,vb,.string b.tag]] w (c_ (kL a b) w):=by
 unfold kL bl;obtain⟨fa,ta,f⟩:=a;obtain⟨fb,tb,g⟩:=b;dsimp only;have c:By w ((w.alloc (.cells #[I J fa,va,.string f] 154)).alloc (.cells #[I J fb,vb,.string g] 154)):=(ba _ _).alloc L _;by_cases h1:fa<fb
 ·have d:decide (fa<fb)=true:=by simpa using h1
  go_enter func149,ntmps149;go_wp2;go_ret;exact⟨by simp[h1],c⟩
 have d:decide (fa<fb)=false:=by simpa using h1
 by_cases h2:fa=fb
 ·have e:(fa==fb)=true:=by simpa using h2
  rw[d,e];clear h1 h2;go_enter func149,ntmps149;go_wp2;go_ret;exact⟨rfl,c⟩
 have e:(fa==fb)=false:=by simpa using h2
 rw[d,e];go_enter func149,ntmps149;go_wp2;go_ret;exact⟨rfl,c⟩
section
variable {ms:List Mp}
theorem NC{i k:Nat}(hi:i<ms.length)(hk:k<i)(h:aY ms[i]=aY (ms[k]'(by omega))):¬(ms.map aY).Nodup:=λhn=>by
 have:=List.pairwise_iff_getElem.1 hn k i oU_ (by simpa using hi) hk;simp at this;exact this h.symm
theorem NB(h:∀i,(hi:i<ms.length)->∀k,(hk:k<i)->aY ms[i]≠aY (ms[k]'(by omega))):(ms.map aY).Nodup:=by
 refine List.pairwise_iff_getElem.2 (λk i hk hi hki=>?_);have:=h i (by simpa using hi) k hki;simp;exact λe=>this e.symm
end
def iR(ms:List Mp):Bool:=!decide (ms.map aY).Nodup
theorem WN(A:Oa)(n a:Nat)(ms:List Mp)(w:Wv)(hA:Mps w A ms)(hn:ms.length=n)(hz:lW ms):
  Calls prog 184 #[H A n a] w (λe w'=>e=.returned (.bool (iR ms))/\Qt w w'):=by
 subst hn;have z:=G hA;have L:=hz.n;have y:=G (λi(hi:i<ms.length)k(hk:k<i)(h:aY ms[i]=aY (ms[k]' O))=>show iR ms=true by unfold iR;simpa using NC (i:=i) (k:=k) hi hk h);have x:=G (λh=>show iR ms=false by unfold iR;simpa using NB (ms:=ms) h);generalize iR ms=R at *;clear hA hz;go_enter func184,ntmps184;go_wp2;go_loopw [3] (λu wr=>∃i:Nat,i<=ms.length/\u=I J i/\(∀s,(hs:s<ms.length)->s<i->∀k,(hk:k<s)->aY ms[s]≠aY (ms[k]' O))/\Qt w wr) (λu _=>ms.length-(intOf u).toNat)
 case atStart=>exact⟨0,Nat.zero_le _,rfl,λs _ h=>O,Qt.refl _⟩
 obtain⟨i,hi,rfl,q,hq⟩:=hrel;have m:=G q;clear q;by_cases hlt:i<ms.length
 ·obtain⟨r,rfl⟩:∃r:Wv,r=wr:=⟨_,rfl⟩
  have g:=G (λk hk h=>y.o i hlt k hk h)
  have j:=G (λ(h:∀k,(hk:k<i)->aY ms[i]≠aY (ms[k]' O))=>show ∀s,(hs:s<ms.length)->s<i+1->∀k,(hk:k<s)->aY ms[s]≠aY (ms[k]' O)from λs hs hsi=>by
   by_cases e:s<i
   ·exact m.o s hs e
   ·obtain rfl:s=i:=O
    exact h)
  go_wp2;go_loopw [4] (λu wr=>∃k:Nat,k<=i/\u=I J k/\(∀t,(ht:t<i)->t<k->aY ms[i]≠aY (ms[t]' O))/\Qt w wr) (λu _=>i-(intOf u).toNat)
  case atStart=>exact⟨0,Nat.zero_le _,rfl,λt _ h=>O,hq⟩
  obtain⟨k,hk,rfl,p,d⟩:=hrel;have f:=G p;clear p;by_cases hltk:k<i
  ·obtain⟨Q,o1,rfl,K,b⟩:=(z.o.below d.below).at hlt
   obtain⟨C,cc,S,E,T,_,_⟩:=b i hlt;obtain⟨D,dd,V,F,W,_,_⟩:=b k O;have v:=G (λh=>g.o k hltk h)
   have l:=G (λ(h:aY ms[i]≠aY (ms[k]' O))=>show ∀t,(ht:t<i)->t<k+1->aY ms[i]≠aY (ms[t]' O)from λt ht htk=>by
    by_cases e:t<k
    ·exact f.o t ht e
    ·obtain rfl:t=k:=O
     exact h)
   have c:=U (aY ms[i]=aY (ms[k]' O) ↔ (ms[i].frm=(ms[k]' O).frm/\ms[i].tag=(ms[k]' O).tag)) (⟨λh=>by injection h with h1 h2;exact⟨h1,h2⟩,λh=>by unfold aY;rw[h.1,h.2]⟩);clear b E F f;generalize hXX:aY ms[i]=X at *;generalize hYY:aY (ms[k]' O)=Y at *;clear hXX hYY;generalize ms[i]=ma at *;generalize (ms[k]' O)=mb at *;obtain⟨af,al,ag⟩:=ma;obtain⟨bf,B,bg⟩:=mb;dsimp only at *;have i1:(0:Int)<=(i:Int):=O;have i2:(i:Int)<(ms.length:Int):=O;have i3:((i:Int)).toNat=i:=O;have k1:(0:Int)<=(k:Int):=O;have k2:(k:Int)<(ms.length:Int):=O;have k3:((k:Int)).toNat=k:=O;by_cases h1:af=bf
   ·have M:(af==bf)=true:=by simpa using h1
    by_cases h2:ag=bg
    ·have P:=EI h2
     obtain rfl:=v.o (c.o.2 ⟨h1,h2⟩);clear v l c h1 h2 j g;go_wp2;go_quiet(fail);go_wp2;go_ret;exact⟨rfl,d.drewN _⟩
    have P:=uS h2;have o:=G (l.o (λe=>h2 (c.o.1 e).2));clear v l c h1 h2;go_wp2;go_quiet(fail);go_wp2;go_roundw
    case rel=>exact⟨k+1,O,oN_,o.o,d.drewN _⟩
    exact oI_
   have M:(af==bf)=false:=by simpa using h1
   have o:=G (l.o (λe=>h1 (c.o.1 e).1));clear v l c h1;go_wp2;go_quiet(fail);go_wp2;go_roundw
   case rel=>exact⟨k+1,O,oN_,o.o,d.drewN _⟩
   exact oI_
  have o:=G (j.o (λt ht=>f.o t ht O));clear j g f;go_wp2;go_roundw
  case rel=>exact⟨i+1,O,oN_,o.o,d⟩
  exact oI_
 obtain rfl:=x.o (λs hs k hk=>m.o s hs O k hk);go_wp2;go_ret;exact⟨rfl,hq⟩
def fG(ms:List Mp):Int:=if cX ms≠0 then cX ms else if iR ms=true then 5 else 0
section
variable {ms:List Mp}
theorem un1{k:Nat}(hk:k<ms.length)(h:dF ms[k]=true):fG ms=1:=by unfold fG;rw[AV hk h];rfl
theorem un2(h1:∀t,(ht:t<ms.length)->dF ms[t]=false){k:Nat}(hk:k<ms.length)(h:64<ms[k].toq.length):fG ms=2:=by unfold fG;rw[AW h1 hk h];rfl
theorem un6(h1:∀t,(ht:t<ms.length)->dF ms[t]=false)(h2:∀t,(ht:t<ms.length)->¬64<ms[t].toq.length){k:Nat}(hk:k<ms.length)(h:eY ms[k]=true):fG ms=6:=by unfold fG;rw[AZ h1 h2 hk h];rfl
theorem un0(h1:∀t,(ht:t<ms.length)->dF ms[t]=false)(h2:∀t,(ht:t<ms.length)->¬64<ms[t].toq.length)(h3:∀t,(ht:t<ms.length)->eY ms[t]=false):fG ms=if iR ms=true then 5 else 0:=by unfold fG;rw[AU h1 h2 h3];rfl
end
theorem WP(A:Oa)(n a:Nat)(ms:List Mp)(w:Wv)(hA:Mps w A ms)(hn:ms.length=n)(hz:lW ms):
  Calls prog 148 #[H A n a] w (aU (fG ms) w):=by
 subst hn;have E:=G hA;have TC:=G (λW hb=>WN A ms.length a ms W (hA.below hb) rfl hz);have ak:=hz.n;have K:=G hz.e;have V:=G (λk hk h=>un1 (ms:=ms) (k:=k) hk h);have X:=G (λh1 k hk h=>un2 (ms:=ms) h1 (k:=k) hk h);have Y:=G (λh1 h2 k hk h=>un6 (ms:=ms) h1 h2 (k:=k) hk h);have T:=G (un0 (ms:=ms));clear hA hz;generalize fG ms=R at *;go_enter func148,ntmps148;go_wp2;go_loopw [3] (λu wr=>∃i:Nat,i<=ms.length/\u=I J i/\(∀t,(ht:t<ms.length)->t<i->dF ms[t]=false)/\By w wr) (λu _=>ms.length-(intOf u).toNat)
 case atStart=>exact⟨0,Nat.zero_le _,rfl,λt _ h=>O,Below.refl _ _⟩
 obtain⟨i,hi,rfl,f,c⟩:=hrel;have d:=G f;clear f;by_cases hlt:i<ms.length
 ·obtain⟨b1,o1,rfl,v,b⟩:=(E.o.below c).at hlt
  obtain⟨C,cc,c0,c1,c2,x,p⟩:=b i hlt;obtain⟨Q,B⟩:=K.o i hlt;have l:=G (λh=>V.o i hlt h);have g:=G (λh=>dI (P:=λm=>dF m=false) hlt d.o h);have CC:=G (VT ms[i] C cc wr p Q);clear b p;generalize ms[i]=mi at *;generalize dF mi=bd at *;obtain⟨mf,mt,mg⟩:=mi;dsimp only at *;go_wp2_with fail;refine CC.o.mono ?_
  rintro e w1 ⟨rfl,M⟩;have s:=c.trans (M.mono c.size);cases bd with
  |true=>
   obtain rfl:=l.o rfl;go_wp2;go_ret;exact⟨rfl,s⟩
  |false=>
   have o:=G (g.o rfl);go_wp2;go_roundw
   case rel=>exact⟨i+1,O,oN_,o.o,s⟩
   exact oI_
 have D:=G (λt(ht:t<ms.length)=>d.o t ht O);clear d V;obtain⟨L,rfl⟩:∃L:Wv,L=wr:=⟨_,rfl⟩;go_wp2;go_loop [4] (λu=>∃i:Nat,i<=ms.length/\u=I J i/\(∀t,(ht:t<ms.length)->t<i->¬64<ms[t].toq.length)) (λu=>ms.length-(intOf u).toNat)
 case atStart=>exact⟨0,Nat.zero_le _,rfl,λt _ h=>O⟩
 obtain⟨i,hi,rfl,f⟩:=hrel;have d:=G f;clear f;by_cases hlt:i<ms.length
 ·obtain⟨b1,o1,rfl,v,b⟩:=(E.o.below c).at hlt
  obtain⟨C,cc,c0,c1,c2,x,p⟩:=b i hlt;obtain⟨Q,B⟩:=K.o i hlt;have l:=G (λh=>X.o D.o i hlt h);have g:=G (λh=>dI (P:=λm:Mp=>¬64<m.toq.length) hlt d.o h);clear b p;generalize ms[i]=mi at *;obtain⟨mf,mt,mg⟩:=mi;dsimp only at *;by_cases h64:64<mt.length
  ·have q1:decide ((64:Int)<(mt.length:Int))=true:=oU_
   obtain rfl:=l.o h64;go_wp2;go_ret;exact⟨rfl,c⟩
  have q1:decide ((64:Int)<(mt.length:Int))=false:=oU_;have o:=G (g.o h64);go_wp2;go_round
  case rel=>exact⟨i+1,O,oN_,o.o⟩
  exact oI_
 have S:=G (λt(ht:t<ms.length)=>d.o t ht O);clear d X;go_wp2;go_loop [5] (λu=>∃i:Nat,i<=ms.length/\u=I J i/\(∀t,(ht:t<ms.length)->t<i->eY ms[t]=false)) (λu=>ms.length-(intOf u).toNat)
 case atStart=>exact⟨0,Nat.zero_le _,rfl,λt _ h=>O⟩
 obtain⟨i,hi,rfl,f⟩:=hrel;have d:=G f;clear f;by_cases hlt:i<ms.length
 ·obtain⟨b1,o1,rfl,v,b⟩:=(E.o.below c).at hlt
  obtain⟨C,cc,c0,c1,c2,x,p⟩:=b i hlt;obtain⟨Q,B⟩:=K.o i hlt;have l:=G (λh=>Y.o D.o S.o i hlt h);have g:=G (λh=>dI (P:=λm:Mp=>eY m=false) hlt d.o h);clear b p;generalize ms[i]=mi at *;have y:=G (EV (m:=mi));have z:=G (EW (m:=mi));generalize eY mi=tb at *;obtain⟨mf,mt,mg⟩:=mi;dsimp only at *;by_cases hg:mg.size=0
  ·have g0:mg.toList=[]:=iH hg
   have o:=G (g.o (y.o hg));clear y z l g;go_wp2;go_round
   case rel=>exact⟨i+1,O,oN_,o.o⟩
   exact oI_
  have g0:¬mg.toList=[]:=iG hg;have g1:mg.toList.isEmpty=false:=by simpa using g0
  have r:=z.o hg;cases hnm:cF mg with
  |true=>
   rw[hnm]at r;have o:=G (g.o r);clear r y z l g;go_wp2_with(go_at_call 153;refine(qT mg _ B).mono ?_;rw[hnm];rintro e w' ⟨rfl,rfl⟩);go_round
   case rel=>exact⟨i+1,O,oN_,o.o⟩
   exact oI_
  |false=>
   rw[hnm]at r;obtain rfl:=l.o r;clear r y z l g;go_wp2_with(go_at_call 153;refine(qT mg _ B).mono ?_;rw[hnm];rintro e w' ⟨rfl,rfl⟩);go_ret;exact⟨rfl,c⟩
 have q:=T.o D.o S.o (λt ht=>d.o t ht O);have j:=G (TC.o L c);clear TC T Y d;cases hd:iR ms with
 |true=>
  rw[hd]at q j;have F:=G q;clear q hd;go_wp2_with fail;refine j.o.mono ?_
  rintro e w1 ⟨rfl,hq⟩;go_wp2;go_ret;exact⟨aH F.o.symm,c.trans (hq.below.mono c.size)⟩
 |false=>
  rw[hd]at q j;have F:=G q;clear q hd;go_wp2_with fail;refine j.o.mono ?_
  rintro e w1 ⟨rfl,hq⟩;go_wp2;go_ret;exact⟨aH F.o.symm,c.trans (hq.below.mono c.size)⟩
section
variable {ms:List Mp}
theorem unD:iR ms=!decide (ms.map aY).Nodup:=rfl
theorem WO(h:fG ms≠0):cH ms=fG ms:=by
 rw[<-BY];unfold pY;unfold fG at h|-;by_cases h1:cX ms=0
 ·simp only[h1,ne_eq,not_true_eq_false,if_false]at h|-
  cases hd:iR ms with
  |true=>
   have:¬(ms.map aY).Nodup:=by rw[unD]at hd;simpa using hd
   simp[this]
  |false=>rw[hd]at h;simp at h
 simp[h1]
theorem CB(h:fG ms=0):cH ms=if dQ ms then 0 else 4:=by
 rw[<-BY];unfold pY;unfold fG at h;by_cases h1:cX ms=0
 ·simp only[h1,ne_eq,not_true_eq_false,if_false]at h|-
  cases hd:iR ms with
  |true=>rw[hd]at h;simp at h
  |false=>
   have:(ms.map aY).Nodup:=by rw[unD]at hd;simpa using hd
   simp[this]
 simp[h1]at h
theorem WQ(h:fG ms=0)(ha:∀t,(ht:t+1<ms.length)->dU ms[t] ms[t+1]<0):cH ms=0:=by rw[CB h,JG ha];rfl
theorem WR(h:fG ms=0){k:Nat}(hk:k+1<ms.length)(ha:¬dU ms[k] ms[k+1]<0):cH ms=4:=by rw[CB h,JA hk ha];rfl
end
theorem WF(A:Oa)(n a:Nat)(ms:List Mp)(w:Wv)(hA:Mps w A ms)(hn:ms.length=n)(hz:lW ms):
  Calls prog 97 #[H A n a] w (aU (cH ms) w):=by
 subst hn;have T:=G (WP A ms.length a ms w hA rfl hz);have HA:=G hA;have am:=hz.n;have K:=G (WO (ms:=ms));have z:=G (WQ (ms:=ms));have E:=G (λh k hk ha=>WR (ms:=ms) h (k:=k) hk ha);clear hA hz;generalize cH ms=R at *;generalize fG ms=pe at *;go_enter func97,ntmps97;go_wp2_with fail;refine T.o.mono ?_
 rintro e W1 ⟨rfl,v⟩;clear T;by_cases hpe:pe=0;rotate_left
 ·have q1:(pe !=0)=true:=by simpa using hpe
  obtain rfl:=K.o hpe;clear hpe K z E;go_wp2;go_ret;exact⟨rfl,v⟩
 have q1:(pe !=0)=false:=by simpa using hpe
 have B:=G (z.o hpe);have F:=G (E.o hpe);clear K z E hpe;go_wp2;go_loopw [4] (λu wr=>∃i:Nat,1<=i/\(i<=ms.length\/i=1)/\u=I J i/\(∀t,(ht:t+1<ms.length)->t+1<i->dU ms[t] ms[t+1]<0)/\By w wr) (λu _=>ms.length-(intOf u).toNat)
 case atStart=>exact⟨1,O,.inr rfl,rfl,λt _ h=>O,v⟩
 obtain⟨i,aj,ak,rfl,s,m⟩:=hrel;have o:=G s;clear s;by_cases hlt:i<ms.length
 ·obtain⟨b,c,rfl,g,f⟩:=(HA.o.below m).at hlt
  obtain⟨C,cc,V,X,Y,_,_⟩:=f i hlt;obtain⟨D,dd,d0,d1,d2,_,_⟩:=f (i-1) O;have Q:=G (λW=>VS (ms[i-1]' O) ms[i] (H D (ms[i-1]' O).toq.length dd) (H C ms[i].toq.length cc) W);have y:=G (oY (ms[i-1]' O) ms[i])
  have L:=G (show¬dU (ms[i-1]' O) ms[i]<0->R=4 from λh=>by
   obtain⟨j,rfl⟩:∃j,i=j+1:=⟨i-1,O⟩
   exact F.o j hlt (by first|exact h|exact Int.not_lt.1 h))
  have l:=U (dU (ms[i-1]' O) ms[i]<0->∀t,(ht:t+1<ms.length)->t+1<i+1->dU ms[t] ms[t+1]<0) (λh t ht hti=>by
   by_cases e:t+1<i
   ·exact o.o t ht e
   ·obtain rfl:i=t+1:=O
    exact h)
  clear f;generalize kL (ms[i-1]' O) ms[i]=bv at *;generalize dU (ms[i-1]' O) ms[i]=cv at *;generalize (ms[i-1]' O)=ma at *;generalize ms[i]=mb at *;obtain⟨af,P,ag⟩:=ma;obtain⟨bf,r,bg⟩:=mb;dsimp only at *;generalize P.length=al at *;generalize r.length=bl' at *;have i1:(0:Int)<=(i:Int)-1:=O;have i2:(i:Int)-1<(ms.length:Int):=O;have i3:((i:Int)-1).toNat=i-1:=O;have i4:(i:Int)<(ms.length:Int):=O;have i5:(0:Int)<=(i:Int):=O;have i6:(1:Int)<=(i:Int):=O;have w1:IntKind.i64.wrap ((i:Int)-1)=(i:Int)-1:=IntWalk.i64_in _ O;have M:=U (∀W',By wr W'->W'.cell? ⟨b,c+(i-1)*3,N⟩=Z (I J af)/\W'.cell? ⟨b,c+(i-1)*3+1,N⟩=Z (H D al dd)/\W'.cell? ⟨b,c+(i-1)*3+2,N⟩=Z (.string ag)/\W'.cell? ⟨b,c+i*3,N⟩=Z (I J bf)/\W'.cell? ⟨b,c+i*3+1,N⟩=Z (H C bl' cc)/\W'.cell? ⟨b,c+i*3+2,N⟩=Z (.string bg)/\By wr W') (λW' hb=>⟨(hb.cell (p:=⟨b,c+(i-1)*3,N⟩) g).trans d0,(hb.cell (p:=⟨b,c+(i-1)*3+1,N⟩) g).trans d1,(hb.cell (p:=⟨b,c+(i-1)*3+2,N⟩) g).trans d2,(hb.cell (p:=⟨b,c+i*3,N⟩) g).trans V,(hb.cell (p:=⟨b,c+i*3+1,N⟩) g).trans X,(hb.cell (p:=⟨b,c+i*3+2,N⟩) g).trans Y,hb⟩);have q:=G (λW'(hb:By wr W')=>(Q.o W').mono (R':=λe W'=>e=.returned (.bool bv)/\(W'.cell? ⟨b,c+(i-1)*3,N⟩=Z (I J af)/\W'.cell? ⟨b,c+(i-1)*3+1,N⟩=Z (H D al dd)/\W'.cell? ⟨b,c+(i-1)*3+2,N⟩=Z (.string ag)/\W'.cell? ⟨b,c+i*3,N⟩=Z (I J bf)/\W'.cell? ⟨b,c+i*3+1,N⟩=Z (H C bl' cc)/\W'.cell? ⟨b,c+i*3+2,N⟩=Z (.string bg)/\By wr W')) (λe w'⟨he,hb'⟩=>⟨he,M.o w' (tb hb hb')⟩));go_wp2_with fail;refine wp_region_held_drew (S:=λW'=>W'.cell? ⟨b,c+(i-1)*3,N⟩=Z (I J af)/\W'.cell? ⟨b,c+(i-1)*3+1,N⟩=Z (H D al dd)/\W'.cell? ⟨b,c+(i-1)*3+2,N⟩=Z (.string ag)/\W'.cell? ⟨b,c+i*3,N⟩=Z (I J bf)/\W'.cell? ⟨b,c+i*3+1,N⟩=Z (H C bl' cc)/\W'.cell? ⟨b,c+i*3+2,N⟩=Z (.string bg)/\By wr W') oK_ (M.o _ (Below.refl _ _).drew) (λd=>?_);refine tK 0 16 ?_;refine tK 1 17 ?_;refine tK 2 18 ?_;refine tK 3 19 ?_;refine tK 4 20 ?_;refine tK 5 21 ?_;refine tK 6 22 ?_;refine tK 7 23 ?_;refine tK 8 24 ?_;refine qK 9 25 (q.o _ d.2.2.2.2.2.2) ?_;clear d;intro W3 d;refine tK 10 26 ?_;refine wpAnyH_done oK_ ?_ _;have Bp:=d.2.2.2.2.2.2;have x:=tb m Bp;clear d V X Y d0 d1 d2 M Q q i1 i2 i3 i4 i5 i6 w1;cases bv with
  |true=>
   have HQ:=G (l.o (of_decide_eq_true y.o.symm));clear y l L;go_wp2;go_roundw
   case rel=>exact⟨i+1,O,.inl O,oN_,HQ.o,x⟩
   exact oI_
  |false=>
   obtain rfl:=L.o (by have h9:=of_decide_eq_false y.o.symm;omega);clear y l L;go_wp2;go_ret;exact⟨rfl,x⟩
 obtain rfl:=B.o (λt ht=>o.o t ht O);go_wp2;go_ret;exact⟨rfl,m⟩
def GV(r:Option (Li))(w:Wv)(e:Ending)(w':Wv):Prop:=∃E d,e=.returned (.tuple #[H E (r.getD []).length d,.bool r.isSome])/\(r.getD []).length<=d/\aA w' E (r.getD [])/\By w w'
def iF(ms:List Mp):Bool:=decide (ms.length<=20)&&ms.all (λm=>decide (m.toq.length<=65)&&decide (m.tag.size<=40))
theorem DT{ms:List Mp}(h:iF ms=true):lW ms/\ms.length<=20/\∀m∈ms,m.toq.length<=65/\m.tag.size<=40:=by
 simp only[iF,Bool.and_eq_true,decide_eq_true_eq,List.all_eq_true]at h;refine⟨⟨O,λi hi=>?_⟩,h.1,h.2⟩;have:=h.2 ms[i] (List.getElem_mem hi);omega
theorem ZI{ms:List Mp}(h:¬ms.length<=20):iF ms=false:=by simp[iF];omega
theorem ZJ{ms:List Mp}{k:Nat}(hk:k<ms.length)(h:¬(ms[k].toq.length<=65/\ms[k].tag.size<=40)):iF ms=false:=by
 cases e:iF ms with
 |false=>rfl
 |true=>exact absurd ((DT e).2.2 ms[k] (List.getElem_mem hk)) h
theorem ZK{ms:List Mp}(h1:ms.length<=20)(h:∀t,(ht:t<ms.length)->ms[t].toq.length<=65/\ms[t].tag.size<=40):iF ms=true:=by
 simp only[iF,Bool.and_eq_true,decide_eq_true_eq,List.all_eq_true];refine⟨h1,λm hm=>?_⟩;obtain⟨t,ht,rfl⟩:=List.getElem_of_mem hm;exact h t ht
theorem ZL(A:Oa)(n a:Nat)(ms:List Mp)(w:Wv)(hA:Mps w A ms)(hn:ms.length=n)(hl:n<=9223372036854775807)(hs:∀i,(hi:i<ms.length)->ms[i].toq.length<=9223372036854775807/\ms[i].tag.size<=9223372036854775807):
  Calls prog 82 #[H A n a] w (λe w'=>e=.returned (.bool (iF ms))/\w=w'):=by
 subst hn;have r:=G hA;have v:=G hs;have p:=G (ZI (ms:=ms));have x:=G (λk hk h=>ZJ (ms:=ms) (k:=k) hk h);have y:=G (ZK (ms:=ms));generalize iF ms=R at *;clear hA hs;go_enter func82,ntmps82;go_wp2;go_loop [3] (λu=>∃i:Nat,i<=ms.length/\i<=30/\u=I J i/\(∀t,(ht:t<ms.length)->t<i->ms[t].toq.length<=65/\ms[t].tag.size<=40)) (λu=>ms.length-(intOf u).toNat)
 case atStart=>exact⟨0,Nat.zero_le _,O,rfl,λt _ h=>O⟩
 obtain⟨i,hi,q,rfl,f⟩:=hrel;have d:=G f;clear f;by_cases hlt:i<ms.length
 ·by_cases h30:i<30
  ·obtain⟨K,S,rfl,B,b⟩:=r.o.at hlt
   obtain⟨C,cc,L,M,Q,D,z⟩:=b i hlt;obtain⟨T,V⟩:=v.o i hlt;have c:=G (λh=>x.o i hlt h);have l:=G (λh=>dI (P:=λm:Mp=>m.toq.length<=65/\m.tag.size<=40) hlt d.o h);have o:decide ((i:Int)<30)=true:=oU_;clear b z;generalize ms[i]=mi at *;obtain⟨mf,mt,mg⟩:=mi;dsimp only at *;by_cases h1:mt.length<=65
   ·have E:decide ((65:Int)<(mt.length:Int))=false:=oU_
    by_cases h2:mg.size<=40
    ·have F:decide ((40:Int)<(mg.size:Int))=false:=oU_
     have s:=G (l.o ⟨h1,h2⟩);clear c l;go_wp2;go_round
     case rel=>exact⟨i+1,O,O,oN_,s.o⟩
     exact oI_
    have F:decide ((40:Int)<(mg.size:Int))=true:=oU_;obtain rfl:=c.o (λh=>h2 h.2);clear c l;go_wp2;go_ret;exact⟨rfl,rfl⟩
   have E:decide ((65:Int)<(mt.length:Int))=true:=oU_;obtain rfl:=c.o (λh=>h1 h.1);clear c l;go_wp2;go_ret;exact⟨rfl,rfl⟩
  obtain rfl:=p.o O;have o:decide ((i:Int)<30)=false:=oU_;have g:decide (ms.length<=20)=false:=oU_;have j:decide ((ms.length:Int)<=20)=false:=oU_;go_wp2;go_ret;exact⟨by simp;try omega,rfl⟩
 by_cases h20:ms.length<=20
 ·obtain rfl:=y.o h20 (λt ht=>d.o t ht O)
  have g:decide (ms.length<=20)=true:=by simpa using h20
  have j:decide ((ms.length:Int)<=20)=true:=oU_;go_wp2;go_ret;exact⟨by simp;try omega,rfl⟩
 obtain rfl:=p.o h20;have g:decide (ms.length<=20)=false:=by simpa using h20
 have j:decide ((ms.length:Int)<=20)=false:=oU_;go_wp2;go_ret;exact⟨by simp;try omega,rfl⟩
end
end Go.Proofs.YtkhmjidaeliccaaGreatDoor
