import Derived.Test.YtkhmjidaeliccaaGreatDoorS04
import Derived.Deep.AppendLies
import Derived.Deep.RegionLaw
set_option maxRecDepth 100000
set_option maxHeartbeats 51200000
namespace Go.Proofs.YtkhmjidaeliccaaGreatDoor
open Option renaming none->N,some->Z
open Value renaming int->I,slice->H
open IntKind renaming i64->J
open Go.Proofs.Tryz
section
open Go.RowKit Go.Maps Go.WideMaps
theorem PH{rs:List Rg}{c:Int}(h:inR 0 1114111 c=false):bO rs c=false:=by unfold bO;rw[h];rfl
theorem PJ{rs:List Rg}{c:Int}(h:inR 0 1114111 c=true){k:Nat}(hk:k<rs.length)(h2:inR rs[k].lo rs[k].hi c=true):bO rs c=true:=by unfold bO;rw[h,Bool.true_and];exact iP hk h2
theorem PI{rs:List Rg}{c:Int}(h2:∀t,(ht:t<rs.length)->inR rs[t].lo rs[t].hi c=false):bO rs c=false:=by unfold bO;rw[fV h2,Bool.and_false]
theorem BX(A:Oa)(n a:Nat)(rs:List Rg)(c:Int)(w:Wv)(hA:Rgs w A rs)(hn:rs.length=n)(hb:n<=1048576):
  Calls prog 203 #[.agg #[H A n a],I J c] w (c_ (bO rs c) w):=by
 subst hn;have D:=G (PH (rs:=rs) (c:=c));have p:=G (λh k hk h2=>PJ (rs:=rs) (c:=c) h (k:=k) hk h2);have z:=G (PI (rs:=rs) (c:=c));generalize bO rs c=R at *;have g:By w (w.alloc (.cells #[H A rs.length a] 26)):=ba _ _;have F:(w.alloc (.cells #[H A rs.length a] 26)).cell? ⟨w.heap.size,0,N⟩=Z (H A rs.length a):=L;have Q:(w.alloc (.cells #[H A rs.length a] 26)).heap.size=w.heap.size+1:=L;have x:∃C,(w.alloc (.cells #[H A rs.length a] 26))=C:=⟨_,rfl⟩;have B:=G hA;clear hA;go_enter func203,ntmps203;go_wp2_with fail;obtain⟨C,m⟩:=x;rw[m]at g F Q|-;clear m;have s:=G (B.o.below g);clear B;cases hv:inR 0 1114111 c with
 |false=>
  obtain rfl:=D.o hv;go_loop [5] (λu=>∃i:Nat,i<=rs.length/\u=I J i) (λu=>rs.length-(intOf u).toNat)
  case atStart=>exact⟨0,Nat.zero_le _,rfl⟩
  obtain⟨i,hi,rfl⟩:=hrel;by_cases hlt:i<rs.length
  ·go_wp2_with(go_at_call 107;refine(fM c _).mono ?_;rw[hv];rintro e y ⟨rfl,rfl⟩)
   go_round
   case rel=>exact⟨i+1,O,oN_⟩
   exact oI_
  go_wp2;go_ret;exact⟨rfl,g⟩
 |true=>
  have p:=G (p.o hv);go_loop [5] (λu=>∃i:Nat,i<=rs.length/\u=I J i/\(∀t,(ht:t<rs.length)->t<i->inR rs[t].lo rs[t].hi c=false)) (λu=>rs.length-(intOf u).toNat)
  case atStart=>exact⟨0,Nat.zero_le _,rfl,λt _ h=>O⟩
  obtain⟨i,hi,rfl,o⟩:=hrel;have l:=G o;clear o;by_cases hlt:i<rs.length
  ·obtain⟨S,W,rfl,E,b⟩:=s.o.at hlt
   obtain⟨T,V⟩:=b i hlt;have q:=G (λh=>p.o i hlt h);have j:=G (λh=>dI (P:=λr:Rg=>inR r.lo r.hi c=false) hlt l.o h);clear b;generalize rs[i]=ri at *;obtain⟨f,d⟩:=ri;dsimp only at *;by_cases h1:f<=c
   ·have K:decide (f<=c)=true:=by simpa using h1
    by_cases h2:c<=d
    ·have M:decide (c<=d)=true:=by simpa using h2
     obtain rfl:=q.o (f_ h1 h2);clear q j p z;go_wp2_with(go_at_call 107;refine(fM c _).mono ?_;rw[hv];rintro e y ⟨rfl,rfl⟩);go_ret;exact⟨rfl,g⟩
    have M:decide (c<=d)=false:=by simpa using h2
    have v:=G (j.o (mD O));clear q j;go_wp2_with(go_at_call 107;refine(fM c _).mono ?_;rw[hv];rintro e y ⟨rfl,rfl⟩);go_round
    case rel=>exact⟨i+1,O,oN_,v.o⟩
    exact oI_
   have K:decide (f<=c)=false:=by simpa using h1
   have v:=G (j.o (mE O));clear q j;go_wp2_with(go_at_call 107;refine(fM c _).mono ?_;rw[hv];rintro e y ⟨rfl,rfl⟩);go_round
   case rel=>exact⟨i+1,O,oN_,v.o⟩
   exact oI_
  obtain rfl:=z.o (λt ht=>l.o t ht O);go_wp2;go_ret;exact⟨rfl,g⟩
theorem WJ(A:Oa)(n a:Nat)(w:Wv)(hb:n<=9223372036854775807):
  Calls prog 83 #[.agg #[H A n a]] w (c_ (decide (n<=12)) w):=by
 go_enter func83,ntmps83;go_wp2;go_ret;exact⟨cY (by rw[Bool.eq_iff_iff];simp;try omega),ba _ _⟩
theorem QA(x y:Bool)(w:Wv):Calls prog 202 #[I J 1,.bool x,.bool y] w (λe w'=>e=.returned (.bool (x||y))/\w=w'):=by
 cases x<;>cases y
 all_goals
  go_enter func202,ntmps202;go_wp2;go_ret;exact⟨rfl,rfl⟩
def eA(l:Li)(n:Int):Bool:=l.any (λx=>decide (n<=x))
theorem nN{l:Li}{n:Int}{k:Nat}(hk:k<l.length):eA (l.take (k+1)) n=(eA (l.take k) n||decide (n<=l[k])):=by
 unfold eA;rw[List.take_succ_eq_append_getElem hk,List.any_append];simp
theorem BH:∀{l:Li}{n x:Int},eA l n=true->bT (l++[x]) n=bT l n++[x]
 |y::r,n,x,h=>by
  simp only[List.cons_append,bT];split
  ·split<;>rfl
  next g=>
  have:eA r n=true:=by
   unfold eA at h|-;rw[List.any_cons,Bool.or_eq_true]at h;rcases h with h|h
   ·exact absurd (by simpa using h) g
   exact h
  rw[BH this];rfl
theorem BG:∀{l:Li}{n:Int},eA l n=false->bT l n=l++[n]
 | [],_,_=>rfl
 |y::r,n,h=>by
  unfold eA at h;rw[List.any_cons,Bool.or_eq_false_iff]at h;have a:¬n<=y:=by simpa using h.1
  simp only[bT];rw[if_neg a,BG (show eA r n=false from h.2)];rfl
theorem uF:∀{l:Li}{n x:Int},eA l n=false->n<=x->bT (l++[x]) n=l++(if n<x then [n,x]else [x])
 | [],n,x,_,hx=>by
  simp only[List.nil_append,bT,hx,if_true]
 |y::r,n,x,h,hx=>by
  unfold eA at h;rw[List.any_cons,Bool.or_eq_false_iff]at h;have a:¬n<=y:=by simpa using h.1
  simp only[List.cons_append,bT];rw[if_neg a,uF (show eA r n=false from h.2) hx]
def plk(l:Li)(n:Int)(k:Nat):Li:=if eA (l.take k) n=true then bT (l.take k) n else l.take k
section
variable {l:Li}{n:Int}{k:Nat}
theorem VI(hk:k<l.length)(h:eA (l.take k) n=true):plk l n (k+1)=plk l n k++[l[k]]:=by
 unfold plk;have e:=nN (n:=n) hk;rw[h,Bool.true_or]at e;rw[if_pos e,if_pos h,List.take_succ_eq_append_getElem hk,BH h]
theorem VF(hk:k<l.length)(h:eA (l.take k) n=false)(hx:n<l[k]):plk l n (k+1)=plk l n k++[n]++[l[k]]:=by
 unfold plk;have e:=nN (n:=n) hk;rw[h,Bool.false_or,show decide (n<=l[k])=true by simp;omega]at e;rw[if_pos e,if_neg (by simp[h]),List.take_succ_eq_append_getElem hk,uF h O,if_pos hx];simp
theorem VE(hk:k<l.length)(h:eA (l.take k) n=false)(hx:n=l[k]):plk l n (k+1)=plk l n k++[l[k]]:=by
 unfold plk;have e:=nN (n:=n) hk;rw[h,Bool.false_or,show decide (n<=l[k])=true by simp;omega]at e;rw[if_pos e,if_neg (by simp[h]),List.take_succ_eq_append_getElem hk,uF h O,if_neg O]
theorem VH(hk:k<l.length)(h:eA (l.take k) n=false)(hx:¬n<=l[k]):plk l n (k+1)=plk l n k++[l[k]]:=by
 unfold plk;have e:=nN (n:=n) hk;rw[h,Bool.false_or,show decide (n<=l[k])=false by simp;omega]at e;rw[if_neg (by simp[e]),if_neg (by simp[h]),List.take_succ_eq_append_getElem hk]
theorem VG:(plk l n k).length<=k+1:=by
 have:∀(s:Li),(bT s n).length<=s.length+1:=by
  intro s;induction s with
  |nil=>simp[bT]
  |cons y r ih=>
   simp only[bT];split
   ·split<;>simp
   simp only[List.length_cons];omega
 unfold plk;split
 ·have h:=this (l.take k)
  have:=List.length_take_le k l;omega
 have:=List.length_take_le k l;omega
theorem VD(h:eA l n=true):plk l n l.length=bT l n:=by unfold plk;rw[List.take_length,if_pos h]
theorem VB(h:eA l n=false):plk l n l.length++[n]=bT l n:=by unfold plk;rw[List.take_length,if_neg (by simp[h]),BG h]
end
theorem pV(l:Li)(n:Int):(bT l n).length<=l.length+1:=by
 induction l with
 |nil=>simp[bT]
 |cons y r ih=>
  simp only[bT];split
  ·split<;>simp
  simp only[List.length_cons];omega
theorem BJ(A:Oa)(m a:Nat)(l:Li)(n:Int)(w:Wv)(hA:aA w A l)(hm:l.length=m)(hb:m<=1048576):
  Calls prog 209 #[H A m a,I J n] w (fR (bT l n) w):=by
 subst hm;have HA:=G hA;have HN:=U (w.ownsRow w.heap.size 3 1 (H N 0 0) 0 ([]:Lv)) (World.ownsRow_nil _ _ _ _);have EY:=G (VD (l:=l) (n:=n));have Y:=G (VB (l:=l) (n:=n));have P0:=G (show plk l n 0=[] by simp[plk,eA]);clear hA;generalize bT l n=R at *;go_enter func209,ntmps209;go_wp2;go_loopw [5,6,7] (λv d u wr=>∃(k:Nat)(S:Oa)(c:Nat),k<=l.length/\u=I J k/\d=.bool (eA (l.take k) n)/\v=H S (plk l n k).length c/\wr.ownsRow w.heap.size 3 1 (H S (plk l n k).length c) (plk l n k).length ((plk l n k).map (Value.int .i64))/\By w wr) (λ_ _ u _=>l.length-(intOf u).toNat)
 case atStart=>exact⟨0,N,0,Nat.zero_le _,rfl,by simp[eA],by rw[P0.o];rfl,by rw[P0.o];exact HN.o,Below.refl _ _⟩
 obtain⟨k,S,c,hk,rfl,rfl,rfl,E,o⟩:=hrel;have i:=G E;clear E HN P0;have av:(plk l n k).length<=k+1:=VG;by_cases hlt:k<l.length
 ·obtain⟨b1,o1,rfl,hc⟩:=HA.o.at hlt
  have X:=hc k hlt;have W:b1<w.heap.size:=World.block_lt_of_cell? w _ X;have c1:=(o.cell (p:=⟨b1,o1+k,N⟩) W).trans X;have C0:=G X;clear X;have C:=G (nN (n:=n) hlt);have T:=G (VI (n:=n) hlt);have P:=G (VF (n:=n) hlt);have M:=G (VE (n:=n) hlt);have Q:=G (VH (n:=n) hlt);clear hc;generalize l[k]=x at *;generalize hL0:plk l n k=L0 at *;clear hL0;have K:By wr (wr.alloc (.cells #[I J x] 3)):=ba _ _;have g:=G (aG i.o K);have q:w.heap.size<=(wr.alloc (.cells #[I J x] 3)).heap.size:=Nat.le_trans o.size K.size;have j:=tb o K;cases hg:eA (l.take k) n with
  |true=>
   have t:=G (T.o hg);have gt:=C.o;rw[hg,Bool.true_or]at gt;have r:=G gt;clear C T P M Q hg gt K;go_wp2_with(at_builtin;refine a_ _ _ 33 3 (I J 0) 1 8 rfl rfl underlying33 cU rfl V V rfl g.o rfl (fI wr [x] 3 rfl) rfl (cJ [x]) O q ?_;intro B D L b z h _ _;have f:=G b;clear b);go_roundw
   case rel=>exact⟨k+1,B,D,O,oN_,by rw[r.o],by rw[t.o];simp,by rw[t.o];simpa using f.o,j.trans h⟩
   exact oI_
  |false=>
   by_cases h1:n<x
   ·have t:=G (P.o hg h1)
    have gt:=C.o;rw[hg,Bool.false_or,show decide (n<=x)=true by simp;omega]at gt;have r:=G gt;have q1:decide (n<=x)=true:=oU_;have q2:decide (n<x)=true:=by simpa using h1
    clear C T P M Q hg gt g q j K;have F:By wr (wr.alloc (.cells #[I J n] 3)):=ba _ _;have g:=G (aG i.o F);have q:w.heap.size<=(wr.alloc (.cells #[I J n] 3)).heap.size:=Nat.le_trans o.size F.size;have j:=tb o F
    go_wp2_with(first
     |(at_builtin;refine a_ _ _ 33 3 (I J 0) 1 8 rfl rfl underlying33 cU rfl V V rfl g.o rfl (fI wr [n] 3 rfl) rfl (cJ [n]) O q ?_;clear g;intro B D L b z h ai _;have s:=j.trans h;have f:=G (aG b ((Below.refl L.heap.size L).alloc (Nat.le_refl _) (.cells #[I J x] 3)));have aq:=(s.cell (p:=⟨b1,o1+k,N⟩) W).trans C0.o;have ax:=s.size;clear b c1)
     | (at_builtin;refine a_ _ _ 33 3 (I J 0) 1 8 rfl rfl underlying33 cU rfl V V rfl f.o rfl (fI L [x] 3 rfl) rfl (cJ [x]) O oU_ ?_;intro A8 c8 w8 y au af aj _;have ab:=G y;clear y))
    go_roundw
    case rel=>exact⟨k+1,A8,c8,O,oN_,by rw[r.o],by rw[t.o];simp,by rw[t.o];simpa using ab.o,(s.alloc s.size _).trans af⟩
    exact oI_
   by_cases h2:n=x
   ·have t:=G (M.o hg h2)
    have gt:=C.o;rw[hg,Bool.false_or,show decide (n<=x)=true by simp;omega]at gt;have r:=G gt;have q1:decide (n<=x)=true:=oU_;have q2:decide (n<x)=false:=by simpa using h1
    clear C T P M Q hg gt K;subst h2;go_wp2_with(at_builtin;refine a_ _ _ 33 3 (I J 0) 1 8 rfl rfl underlying33 cU rfl V V rfl g.o rfl (fI wr [n] 3 rfl) rfl (cJ [n]) O q ?_;intro B D L b z h _ _;have f:=G b;clear b);go_roundw
    case rel=>exact⟨k+1,B,D,O,oN_,by rw[r.o],by rw[t.o];simp,by rw[t.o];simpa using f.o,j.trans h⟩
    exact oI_
   have t:=G (Q.o hg O);have gt:=C.o;rw[hg,Bool.false_or,show decide (n<=x)=false by simp;omega]at gt;have r:=G gt;have q1:decide (n<=x)=false:=oU_;clear C T P M Q hg gt K;go_wp2_with(at_builtin;refine a_ _ _ 33 3 (I J 0) 1 8 rfl rfl underlying33 cU rfl V V rfl g.o rfl (fI wr [x] 3 rfl) rfl (cJ [x]) O q ?_;intro B D L b z h _ _;have f:=G b;clear b);go_roundw
   case rel=>exact⟨k+1,B,D,O,oN_,by rw[r.o],by rw[t.o];simp,by rw[t.o];simpa using f.o,j.trans h⟩
   exact oI_
 obtain rfl:k=l.length:=O;rw[List.take_length];cases hg:eA l n with
 |true=>
  have e:=EY.o hg;rw[e]at i|-;clear EY Y e hg;go_wp2;go_ret;exact⟨S,c,rfl,i.o,o⟩
 |false=>
  have HE:=G (Y.o hg);clear EY Y hg;generalize hL0:plk l n l.length=L0 at *;clear hL0;have F:By wr (wr.alloc (.cells #[I J n] 3)):=ba _ _;have g:=G (aG i.o F);have q:w.heap.size<=(wr.alloc (.cells #[I J n] 3)).heap.size:=Nat.le_trans o.size F.size;have j:=tb o F;go_wp2_with(at_builtin;refine a_ _ _ 33 3 (I J 0) 1 8 rfl rfl underlying33 cU rfl V V rfl g.o rfl (fI wr [n] 3 rfl) rfl (cJ [n]) O q ?_;intro B D L b z h _ _;have f:=G b;clear b);go_ret;refine⟨B,D,?_,?_,j.trans h⟩
  ·rw[<-HE.o];simp
  rw[<-HE.o];simpa using f.o
end
section
open Go.RowKit
variable {P:Program}{w:Wv}
theorem D_{ops:Array Oper}{o:Oper}{a:Act}{K:Act->Wv->Prop}{Q:Exit->Act->Wv->Prop}{E:Prop}(hgd:o.guard=N)(s x:Operand)(t e:TypeId)(z:Value)(size bytes:Nat)
  (ho:o.op=.call { callee:=.builtin .append,args:=#[s,x],argTypes:=#[t,t] }) (ht:P.underlying t=Z (.slice e))
  (hinfo:(P.info? e).map (λi=>(i.zero,i.size,i.bytes))=Z (Z z,size,bytes)) (hzs:z.cells.size=size) (hsz:0<size) (hby:0<bytes)
  {base:Nat} {A:Oa} {n c:Nat} {xs:Lv} (hs:a.eval s=H A n c) (hown:w.ownsRow base e size (H A n c) n xs)
  {A':Oa} {m c':Nat} {news:Lv} (hx:a.eval x=H A' m c') (hr:Sl w A' news) (hl:news.length=m*size) (h1:∀u∈news,u.oneCell'=true)
  (hlim:(n+m)*bytes<=140737488355328) (hbase:base<=w.heap.size)
  (h:∀B k w',w'.ownsRow base e size (H B (n+m) k) (n+m) (xs++news)->n+m<=k->Below base w w'->w.grownBy w' (Value.ownBlock (H A n c))->(B=A\/B=Z ⟨w.heap.size,0,N⟩)->
   K (a.put o.dst (H B (n+m) k)) w'):if Region.wanted o (yielded ops a.tmps)=true then Oper.wp P o a w K Q else E:=by
 have hw:Region.wanted o (yielded ops a.tmps)=true:=by simp[Region.wanted,hgd]
 rw[if_pos hw]
 obtain⟨B,k,w',b,d,f,g,j,l⟩:=qB (P:=P) t o.type e z size bytes ht hinfo hzs hsz hby hown (c':=c') hr hl h1 hlim hbase
 unfold Oper.wp execOp
 simp only[ho,resolve,invoke,builtin,Sem.run_bind,Sem.run_pure,Result.andThen_ok,List.map_toArray,List.map_cons,List.map_nil,hs,hx,b]
 exact h B k w' d f g j l
end
section
open Go.RowKit Go.Maps Go.WideMaps
def oP(l:Li)(w:Wv)(e:Ending)(w':Wv):Prop:=∃E d,e=.returned (H E l.length d)/\l.length<=d/\aA w' E l/\By w w'
theorem fR.is{l:Li}{w:Wv}{e:Ending}{w':Wv}(h:fR l w e w'):oP l w e w':=by
 obtain⟨A,c,b,a,d⟩:=h;obtain⟨_,_,hv,hc⟩:=iC a;injection hv with _ _ hv;subst hv;exact⟨A,c,b,hc,Sl.of_own a,d⟩
theorem MR(l:Li)(r:Rg):(dV l r).length<=l.length+2:=by
 unfold dV;dsimp only;have a:(if inR 0 1114111 r.lo=true then bT l r.lo else l).length<=l.length+1:=by
  split
  ·exact pV _ _
  omega
 split
 ·have:=pV (if inR 0 1114111 r.lo=true then bT l r.lo else l) (r.hi+1);omega
 omega
theorem sP(rs:List Rg)(l:Li):(rs.foldl dV l).length<=l.length+2*rs.length:=by
 induction rs generalizing l with
 |nil=>simp
 |cons r rs ih=>
  have:=ih (dV l r);have:=MR l r;simp only[List.foldl_cons,List.length_cons];omega
theorem pB(rs:List Rg)(l:Li):(bQ l rs).length<=l.length+2*rs.length+1:=by
 unfold bQ;have:=pV (rs.foldl dV l) 0;have:=sP rs l;omega
theorem vB(A:Oa)(m a:Nat)(l:Li)(B:Oa)(n b:Nat)(rs:List Rg)(w:Wv)(hA:aA w A l)(hm:l.length=m)(hB:Rgs w B rs)(hn:rs.length=n)(hmz:m<=100000)(hnz:n<=100000):
  Calls prog 201 #[H A m a,.agg #[H B n b]] w (oP (bQ l rs) w):=by
 subst hm;subst hn;have B0:By w (w.alloc (.cells #[H B rs.length b] 26)):=ba _ _;have k0:(w.alloc (.cells #[H B rs.length b] 26)).cell? ⟨w.heap.size,0,N⟩=Z (H B rs.length b):=L;have s0:(w.alloc (.cells #[H B rs.length b] 26)).heap.size=w.heap.size+1:=L;have aj:∃W0,(w.alloc (.cells #[H B rs.length b] 26))=W0:=⟨_,rfl⟩;have HA:=G hA;have HB:=G hB;have ER:=U (bQ l rs=bT (rs.foldl dV l) 0) rfl;clear hA hB;generalize bQ l rs=R at *;go_enter func201,ntmps201;go_wp2_with fail;obtain⟨W0,aa⟩:=aj;rw[aa]at B0 k0 s0|-;clear aa;have al:w.heap.size<W0.heap.size:=O;have V:=G (HA.o.below B0);clear HA;go_loopw [0,5] (λv u wr=>∃(i:Nat)(S:Oa)(c:Nat),i<=rs.length/\u=I J i/\v=H S ((rs.take i).foldl dV l).length c/\aA wr S ((rs.take i).foldl dV l)/\By W0 wr) (λ_ u _=>rs.length-(intOf u).toNat)
 case atStart=>exact⟨0,A,a,Nat.zero_le _,rfl,rfl,V.o,Below.refl _ _⟩
 obtain⟨i,S,c,hi,rfl,rfl,hS,K⟩:=hrel;have HS:=G hS;clear hS V;have f0:=(K.cell (p:=⟨w.heap.size,0,N⟩) al).trans k0;have ab:=tb B0 K;have a5:w.heap.size<wr.heap.size:=by have:=K.size;omega
 by_cases hlt:i<rs.length
 ·obtain⟨b1,o1,rfl,a3,z⟩:=(HB.o.below ab).at hlt
  obtain⟨c1,c2⟩:=z i hlt;have r:=G (MU (l:=l) hlt);have Q:=sP (rs.take i) l;have C:(rs.take i).length<=i:=List.length_take_le _ _;have q:=G (λ(A':Oa) (a':Nat) (l':Li) (x:Int) W (hA':aA W A' l') (hz:l'.length<=1048576)=>(BJ A' l'.length a' l' x W hA' rfl hz).mono (R':=oP (bT l' x) W) (λ_ _ h=>h.is));have g:=U (dV ((rs.take i).foldl dV l) rs[i]=if 0<=rs[i].hi/\rs[i].hi<1114111 then bT (if inR 0 1114111 rs[i].lo=true then bT ((rs.take i).foldl dV l) rs[i].lo else(rs.take i).foldl dV l) (rs[i].hi+1)else(if inR 0 1114111 rs[i].lo=true then bT ((rs.take i).foldl dV l) rs[i].lo else(rs.take i).foldl dV l)) rfl;clear z;generalize (rs.take i).foldl dV l=F at *;generalize rs[i]=ri at *;obtain⟨o,j⟩:=ri;dsimp only at *;have a4:F.length<=1048000:=O;have ad:∀x,(bT F x).length<=1048001:=λx=>by have:=pV F x;omega
  have ah:=G ad;have i1:(0:Int)<=(i:Int):=O;have i2:(i:Int)<(rs.length:Int):=O;have i3:((i:Int)).toNat=i:=O;clear ad Q C;go_wp2;go_quiet(fail);clear i1 i2 i3;have D:=bU K nq;have t:=G (Sl.drewN HS.o nq);clear f0 c1 c2 HS;generalize wr.drewN nq=Wq at *;cases hv:inR 0 1114111 o with
  |true=>
   have P1:=G (q.o S c F o Wq t.o O);rw[hv]at g;go_wp2_with(go_at_call 107;refine(fM o _).mono ?_;rw[hv];rintro e w' ⟨rfl,rfl⟩);refine P1.o.mono ?_
   rintro e W2 ⟨E,d,rfl,hd,hE,ak⟩;have HE:=G hE;have M:=tb D ak;have a6:=ah.o o;clear P1 hE t;by_cases g1:0<=j
   ·have q1:decide (0<=j)=true:=by simpa using g1
    by_cases g2:j<1114111
    ·have q2:decide (j<1114111)=true:=by simpa using g2
     have hc:=g.o;simp[g1,g2]at hc;have f:=G hc;have X:=G (q.o E d (bT F o) (j+1) W2 HE.o O);clear g q hc;go_wp2_with fail;refine X.o.mono ?_
     rintro e W4 ⟨T,Y,rfl,P,k,y⟩;have s:=G k;clear X k;go_wp2;go_roundw
     case rel=>exact⟨i+1,T,Y,O,oN_,by rw[r.o,f.o],by rw[r.o,f.o];exact s.o,tb M y⟩
     exact oI_
    have q2:decide (j<1114111)=false:=by simpa using g2
    have hc:=g.o;simp[g2]at hc;have f:=G hc;clear g q hc;go_wp2;go_roundw
    case rel=>exact⟨i+1,E,d,O,oN_,by rw[r.o,f.o],by rw[r.o,f.o];exact HE.o,M⟩
    exact oI_
   have q1:decide (0<=j)=false:=by simpa using g1
   have hc:=g.o;simp[g1]at hc;have f:=G hc;clear g q hc;go_wp2;go_roundw
   case rel=>exact⟨i+1,E,d,O,oN_,by rw[r.o,f.o],by rw[r.o,f.o];exact HE.o,M⟩
   exact oI_
  |false=>
   rw[hv]at g;by_cases g1:0<=j
   ·have q1:decide (0<=j)=true:=by simpa using g1
    by_cases g2:j<1114111
    ·have q2:decide (j<1114111)=true:=by simpa using g2
     have hc:=g.o;simp[g1,g2]at hc;have f:=G hc;have X:=G (q.o S c F (j+1) Wq t.o O);clear g q hc;go_wp2_with(go_at_call 107;refine(fM o _).mono ?_;rw[hv];rintro e w' ⟨rfl,rfl⟩);refine X.o.mono ?_
     rintro e W4 ⟨T,Y,rfl,P,k,y⟩;have s:=G k;clear X k;go_wp2;go_roundw
     case rel=>exact⟨i+1,T,Y,O,oN_,by rw[r.o,f.o],by rw[r.o,f.o];exact s.o,tb D y⟩
     exact oI_
    have q2:decide (j<1114111)=false:=by simpa using g2
    have hc:=g.o;simp[g2]at hc;have f:=G hc;clear g q hc;go_wp2_with(go_at_call 107;refine(fM o _).mono ?_;rw[hv];rintro e w' ⟨rfl,rfl⟩);go_roundw
    case rel=>exact⟨i+1,S,c,O,oN_,by rw[r.o,f.o],by rw[r.o,f.o];exact t.o,D⟩
    exact oI_
   have q1:decide (0<=j)=false:=by simpa using g1
   have hc:=g.o;simp[g1]at hc;have f:=G hc;clear g q hc;go_wp2_with(go_at_call 107;refine(fM o _).mono ?_;rw[hv];rintro e w' ⟨rfl,rfl⟩);go_roundw
   case rel=>exact⟨i+1,S,c,O,oN_,by rw[r.o,f.o],by rw[r.o,f.o];exact t.o,D⟩
   exact oI_
 have Q:=sP (rs.take i) l;have C:(rs.take i).length<=i:=List.length_take_le _ _;have q:=G ((BJ S ((rs.take i).foldl dV l).length c ((rs.take i).foldl dV l) 0 wr HS.o rfl O).mono (R':=oP (bT ((rs.take i).foldl dV l) 0) wr) (λ_ _ h=>h.is));rw[List.take_of_length_le (show rs.length<=i by omega)]at q|-;rw[<-ER.o]at q;clear ER Q C;go_wp2_with fail;refine q.o.mono ?_
 rintro e W4 ⟨T,Y,rfl,P,k,y⟩;have s:=G k;clear q k;go_wp2;go_ret;exact⟨T,Y,rfl,P,s.o,tb ab y⟩
theorem oC{cs:Li}{i:Nat}(h:i<cs.length):nxt cs i=cs[i]:=by unfold nxt;rw[List.getElem?_eq_getElem h];rfl
theorem z_{cs:Li}{i:Nat}(h:¬i<cs.length):nxt cs i=1114112:=by unfold nxt;rw[List.getElem?_eq_none O];rfl
section
variable {p:Int->Bool}{cs:Li}{i:Nat}
theorem JP(h:p (nxt cs i)=false):bld p cs (i+1)=((bld p cs i).1,false):=by simp[bld,h]
theorem JO(h:p (nxt cs i)=true)(h2:(bld p cs i).2=false):bld p cs (i+1)=((bld p cs i).1++[⟨nxt cs i,nxt cs (i+1)-1⟩],true):=by simp[bld,h,h2]
theorem JQ(h:p (nxt cs i)=true)(h2:(bld p cs i).2=true):bld p cs (i+1)=(eX (bld p cs i).1 (nxt cs (i+1)-1),true):=by simp[bld,h,h2]
theorem rR:∀i,(bld p cs i).1.length<=i
 |0=>Nat.le_refl _
 |i+1=>by
  have ih:=rR i;simp only[bld];split
  ·dsimp only
   split
   ·rw[yM];omega
   rw[List.length_append];simp;omega
  dsimp only;omega
end
theorem JR{rs:List Rg}{cs:Li}(h:Ct rs cs)(h0:0∈cs){i:Nat}(hi:i<cs.length)(h2:(bld (bO rs) cs i).2=true):
  ∃k x,(bld (bO rs) cs i).1.length=k+1/\(bld (bO rs) cs i).1[k]?=Z x/\eX (bld (bO rs) cs i).1 (nxt cs (i+1)-1)=(bld (bO rs) cs i).1.set k ⟨x.lo,nxt cs (i+1)-1⟩:=by
 have hb:=rS h h0 i O;obtain⟨x,hx,d⟩:=hb.yes h2;have b:(bld (bO rs) cs i).1≠[]:=by intro e;rw[e]at hx;cases hx
 have c:nxt cs i<=nxt cs (i+1):=by
  rcases Nat.lt_or_ge (i+1) cs.length with g|g
  ·have:=List.pairwise_iff_getElem.1 h.asc i (i+1) O g O
   rw[oC hi,oC g];omega
  rw[oC hi,z_ O];have:=h.bd _ (List.getElem_mem hi);omega
 obtain⟨k,hk⟩:∃k,(bld (bO rs) cs i).1.length=k+1:=⟨(bld (bO rs) cs i).1.length-1,by have:=List.length_pos_iff.2 b;omega⟩;have a:(bld (bO rs) cs i).1[k]?=Z x:=by
  rw[List.getLast?_eq_getElem?,hk]at hx;simpa using hx
 refine⟨k,x,hk,a,?_⟩;rw[pK hk];have e:(bld (bO rs) cs i).1[k]' O=x:=(List.getElem?_eq_some_iff.1 a).2;rw[e];congr 2;omega
theorem sO(d:List Rg)(i:Nat)(h:Int){x:Rg}(hx:d[i]?=Z x):(aB Rg.cells d).set (i*2+1) (I J h)=aB Rg.cells (d.set i ⟨x.lo,h⟩):=by
 induction d generalizing i with
 |nil=>simp at hx
 |cons y r ih=>
  cases i with
  |zero=>simp at hx;subst hx;simp[aB,Rg.cells]
  |succ i=>
   have a:=ih i (by simpa using hx);simp only[aB,List.flatMap_cons,Rg.cells,List.cons_append,List.nil_append,List.set_cons_succ]at *;rw[show(i+1)*2=i*2+1+1 by omega];simp only[List.set_cons_succ,a]
theorem nX:(prog.info? 179).map (λi=>(i.zero,i.size,i.bytes))=Z (Z (.agg #[I J 0,I J 0]),2,16):=oK_
theorem oD(r:Rg):∀u∈Rg.cells r,u.oneCell'=true:=by
 intro u hu;simp only[Rg.cells,List.mem_cons,List.not_mem_nil,or_false]at hu;rcases hu with rfl|rfl<;>rfl
theorem uC{w:Wv}{base:Nat}{e:TypeId}{size n c:Nat}{A:Oa}{xs:Lv}(h:w.ownsRow base e size (H A n c) n xs):n<=c:=by
 obtain⟨_,_,hv,hc⟩:=iC h;injection hv with _ _ hv;subst hv;exact hc
theorem pU{w:Wv}{base:Nat}{e:TypeId}{size n:Nat}{v:Value}{xs:Lv}(h:w.ownsRow base e size v n xs){p:Addr}(hp:p.block<base)(u:Value):(w.setCell p u).ownsRow base e size v n xs:=
 h.kept (bR w p u) (by
  cases hv:v.ownBlock with
  |none=>exact .inl rfl
  |some q=>
   right
   have:=(h.lt q hv).1
   intro e
   injection e with e
   omega)
theorem WX(tmps:Array Value)(w:Wv){b:Nat}{v0:Value}(ha:tmps.getD 6 undef=.pointer (Z ⟨b,0,N⟩))(c0:w.cell? ⟨b,0,N⟩=Z v0):
  (results f185 tmps).run prog w=.ok (.agg #[v0]) w:=by
 have hr:f185.results=#[.cell 6 26]:=rfl;unfold results;rw[hr];simp only[ha,List.mapM_toArray,List.mapM_cons,List.mapM_nil,asAddr];go_simp
def rF(rs:List Rg)(w:Wv)(e:Ending)(w':Wv):Prop:=∃E d,e=.returned (.agg #[H E rs.length d])/\rs.length<=d/\Rgs w' E rs/\By w w'
theorem MJ(A:Oa)(n a:Nat)(rs:List Rg)(w:Wv)(hA:Rgs w A rs)(hn:rs.length=n)(hz:n<=1000):
  Calls prog 185 #[.agg #[H A n a],.agg #[H N 0 0],I J 1] w (rF (eI rs) w):=by
 have B0:By w (((w.alloc (.cells #[H A n a] 26)).alloc (.cells #[H N 0 0] 26)).alloc (.cells #[H N 0 0] 26)):=((ba _ _).alloc L _).alloc oU_ _;have k0:(((w.alloc (.cells #[H A n a] 26)).alloc (.cells #[H N 0 0] 26)).alloc (.cells #[H N 0 0] 26)).cell? ⟨w.heap.size,0,N⟩=Z (H A n a):=oS_;have k1:(((w.alloc (.cells #[H A n a] 26)).alloc (.cells #[H N 0 0] 26)).alloc (.cells #[H N 0 0] 26)).cell? ⟨w.heap.size+1,0,N⟩=Z (H N 0 0):=oS_;have X0:Box (((w.alloc (.cells #[H A n a] 26)).alloc (.cells #[H N 0 0] 26)).alloc (.cells #[H N 0 0] 26)) (w.heap.size+2) 26 [H N 0 0]:=Box.new _ _ _ L;have s0:(((w.alloc (.cells #[H A n a] 26)).alloc (.cells #[H N 0 0] 26)).alloc (.cells #[H N 0 0] 26)).heap.size=w.heap.size+3:=L;have cb:∃D,(((w.alloc (.cells #[H A n a] 26)).alloc (.cells #[H N 0 0] 26)).alloc (.cells #[H N 0 0] 26))=D:=⟨_,rfl⟩;have h1:=(Ct.nil).cuts (rs:=rs);have h2:=h1.1.cuts (rs:=[]);rw[List.append_nil,List.nil_append]at h2;have af:=G h2;have bd:=G (λW(hb:By w W)=>vB N 0 0 [] A n a rs W (Sl.nil _ _) rfl (hA.below hb) hn O O);have dq:(bQ [] rs).length<=2001:=by have:_<=0+2*rs.length+1:=pB rs [];omega
 have be:=G (λ(E:Oa) d W hE=>vB E (bQ [] rs).length d (bQ [] rs) N 0 0 [] W hE rfl (Sl.nil _ _) rfl O O);have c4:(bQ (bQ [] rs) []).length<=2002:=by have:(bQ (bQ [] rs) []).length<=(bQ [] rs).length+2*0+1:=pB [] (bQ [] rs);omega
 have HR:=U (eI rs=(bld (bO rs) (bQ (bQ [] rs) []) (bQ (bQ [] rs) []).length).1) rfl;have b6:=G (λx W(hb:By w W)=>BX A n a rs x W (hA.below hb) hn O);have b5:=G (λx W=>BX N 0 0 [] x W (Sl.nil _ _) rfl O);have b9:=G (λx=>show bO [] x=false by simp[bO]);generalize eI rs=R at *;generalize bQ [] rs=L1 at *;generalize bQ L1 []=cs at *;clear h1 h2 hA;go_enter func185,ntmps185;go_wp2_with fail;obtain⟨D,br⟩:=cb;rw[br]at B0 k0 k1 X0 s0|-;clear br;have cn:w.heap.size<D.heap.size:=O;have co:w.heap.size+1<D.heap.size:=O;have cp:w.heap.size+2<D.heap.size:=O;have KP:=U (∀W',By D W'->(W'.cell? ⟨w.heap.size,0,N⟩=Z (H A n a)/\W'.cell? ⟨w.heap.size+1,0,N⟩=Z (H N 0 0))/\By D W') (λW' hb=>⟨⟨(hb.cell (p:=⟨w.heap.size,0,N⟩) cn).trans k0,(hb.cell (p:=⟨w.heap.size+1,0,N⟩) co).trans k1⟩,hb⟩);have C1:=G (λW(hb:By D W)=>(bd.o W (tb B0 hb)).mono (R':=λe W'=>∃v,e=.returned v/\((W'.cell? ⟨w.heap.size,0,N⟩=Z (H A n a)/\W'.cell? ⟨w.heap.size+1,0,N⟩=Z (H N 0 0))/\By D W')/\(∃E d,v=H E L1.length d/\aA W' E L1)) (λe w'⟨E,d,he,_,hE,hb'⟩=>⟨_,he,KP.o w' (tb hb hb'),E,d,rfl,hE⟩));have C2:=G (λ(E:Oa) d W (hb:By D W) hE=>(be.o E d W hE).mono (R':=λe W'=>∃v,e=.returned v/\((W'.cell? ⟨w.heap.size,0,N⟩=Z (H A n a)/\W'.cell? ⟨w.heap.size+1,0,N⟩=Z (H N 0 0))/\By D W')/\(∃E d,v=H E cs.length d/\aA W' E cs)) (λe w'⟨E,d,he,_,hE,hb'⟩=>⟨_,he,KP.o w' (tb hb hb'),E,d,rfl,hE⟩));refine wp_region_held_drew (S:=λW'=>(W'.cell? ⟨w.heap.size,0,N⟩=Z (H A n a)/\W'.cell? ⟨w.heap.size+1,0,N⟩=Z (H N 0 0))/\By D W') oK_ (KP.o _ (Below.refl _ _).drew) (λc=>?_);refine tK 0 13 ?_;refine tK 2 15 ?_;refine iN (i:=1) (Z 14) rfl rfl oK_ oR_ oS_ (C1.o _ c.2) (λv W3 hS6 hR6=>?_);obtain⟨E1,d1,rfl,bo⟩:=hR6;clear c;have c:=hS6;clear hS6;try simp only[Act.put,sA,sB,sC]
 refine iN (i:=3) (Z 16) rfl rfl oK_ oR_ oS_ (C2.o E1 d1 W3 c.2 bo) (λv W4 hS6 hR6=>?_);obtain⟨E2,d2,rfl,bp⟩:=hR6;clear c;have c:=hS6;clear hS6;try simp only[Act.put,sA,sB,sC]
 refine tK 4 7 ?_;refine wpAnyH_done oK_ ?_ _;have bt:=c.2;have b7:=G bp;clear c bo bp C1 C2 bd be;have dt:w.heap.size+2<W4.heap.size:=by have:=bt.size;omega
 have B5:By W4 (W4.alloc (.cells #[H N 0 0] 26)):=ba _ _;have X5:Box (W4.alloc (.cells #[H N 0 0] 26)) W4.heap.size 26 [H N 0 0]:=Box.new _ _ _ rfl;have s5:(W4.alloc (.cells #[H N 0 0] 26)).heap.size=W4.heap.size+1:=L;have cc:∃r,W4.alloc (.cells #[H N 0 0] 26)=r:=⟨_,rfl⟩;go_wp2_with fail;obtain⟨r,bs⟩:=cc;rw[bs]at B5 X5 s5|-;clear bs;have bl:=G X5;have ak:=U (r.ownsRow r.heap.size 179 2 (H N 0 0) 0 ([]:Lv)) (World.ownsRow_nil _ _ _ _);clear X5;go_loopw [9,10] (λv u wr=>∃(i:Nat)(S:Oa)(k:Nat),i<=cs.length/\u=I J i/\v=.bool (bld (bO rs) cs i).2/\Box wr W4.heap.size 26 [H S (bld (bO rs) cs i).1.length k]/\wr.ownsRow r.heap.size 179 2 (H S (bld (bO rs) cs i).1.length k) (bld (bO rs) cs i).1.length (aB Rg.cells (bld (bO rs) cs i).1)/\By W4 wr/\r.heap.size<=wr.heap.size) (λ_ u _=>cs.length-(intOf u).toNat)
 case atStart=>exact⟨0,N,0,Nat.zero_le _,rfl,rfl,bl.o,ak.o,B5,Nat.le_refl _⟩
 obtain⟨i,S,k,hi,rfl,rfl,hX,am,ah,dr⟩:=hrel;have HX:=G hX;have f:=G am;clear hX am bl ak;have a3:=tb bt ah;have bv:=tb B0 a3;have c3:=rR (p:=bO rs) (cs:=cs) i;by_cases hlt:i<cs.length
 ·obtain⟨C,o1,rfl,a7⟩:=(b7.o.below ah).at hlt
  have cx:=a7 i hlt;have a4:=World.block_lt_of_cell? wr _ cx;have dp:=af.o.1.bd _ (List.getElem_mem hlt);have NX:=G (oC hlt);have BN:=G (JP (p:=bO rs) (cs:=cs) (i:=i));have BW:=G (JO (p:=bO rs) (cs:=cs) (i:=i));have Y:=G (JQ (p:=bO rs) (cs:=cs) (i:=i));have BS:=G (λh=>JR af.o.1 af.o.2 hlt h);have bg:=U (∃hv:Int,nxt cs (i+1)-1=hv/\(∀h:i+1<cs.length,wr.cell? ⟨C,o1+(i+1),N⟩=Z (I J (hv+1))/\-1<=hv/\hv<=1114111)/\(¬i+1<cs.length->hv=1114111)) (⟨_,rfl,λh=>by rw[oC h];have:=af.o.1.bd _ (List.getElem_mem h);refine⟨?_,O,O⟩;rw[show cs[i+1]-1+1=cs[i+1] by omega];exact a7 (i+1) h,λh=>by rw[z_ h];rfl⟩);obtain⟨hv,bh,bj,bk⟩:=bg.o;have ag:=G bh;have K:=G bj;have M:=G bk;clear a7 bg bh bj bk;rw[NX.o,ag.o]at BW;rw[NX.o]at BN Y;rw[ag.o]at Y BS;generalize cs[i]=x at *;have i1:(0:Int)<=(i:Int):=O;have i2:(i:Int)<(cs.length:Int):=O;have i3:((i:Int)).toNat=i:=O
  have KS:=U (∀W',By wr W'->(W'.cell? ⟨w.heap.size,0,N⟩=Z (H A n a)/\W'.cell? ⟨w.heap.size+1,0,N⟩=Z (H N 0 0)/\W'.cell? ⟨C,o1+i,N⟩=Z (I J x))/\By wr W') (λW' hb=>by
   obtain⟨⟨a1,a2⟩,_⟩:=KP.o W' (tb a3 hb)
   exact⟨⟨a1,a2,(hb.cell (p:=⟨C,o1+i,N⟩) a4).trans cx⟩,hb⟩)
  have H1:=G (λW(hb:By wr W)=>(b6.o x W (tb bv hb)).mono (R':=λe W'=>e=.returned (.bool (bO rs x))/\((W'.cell? ⟨w.heap.size,0,N⟩=Z (H A n a)/\W'.cell? ⟨w.heap.size+1,0,N⟩=Z (H N 0 0)/\W'.cell? ⟨C,o1+i,N⟩=Z (I J x))/\By wr W')) (λe w'⟨he,hb'⟩=>⟨he,KS.o w' (tb hb hb')⟩));have H2:=G (λW(hb:By wr W)=>(b5.o x W).mono (R':=λe W'=>e=.returned (.bool false)/\((W'.cell? ⟨w.heap.size,0,N⟩=Z (H A n a)/\W'.cell? ⟨w.heap.size+1,0,N⟩=Z (H N 0 0)/\W'.cell? ⟨C,o1+i,N⟩=Z (I J x))/\By wr W')) (λe w'⟨he,hb'⟩=>⟨by rw[he,b9.o],KS.o w' (tb hb hb')⟩));have H3:=G (λy W(hS:(W.cell? ⟨w.heap.size,0,N⟩=Z (H A n a)/\W.cell? ⟨w.heap.size+1,0,N⟩=Z (H N 0 0)/\W.cell? ⟨C,o1+i,N⟩=Z (I J x))/\By wr W)=>(QA y false W).mono (R':=λe W'=>e=.returned (.bool (y||false))/\((W'.cell? ⟨w.heap.size,0,N⟩=Z (H A n a)/\W'.cell? ⟨w.heap.size+1,0,N⟩=Z (H N 0 0)/\W'.cell? ⟨C,o1+i,N⟩=Z (I J x))/\By wr W')) (λe w'⟨he,hw⟩=>⟨he,by subst hw;exact hS⟩));generalize bO rs x=inx at *;generalize hB0:bld (bO rs) cs i=bi at *;obtain⟨aj,op⟩:=bi;dsimp only at *;clear hB0;by_cases hl1:i+1<cs.length
  ·obtain⟨cy,cm,ds⟩:=K.o hl1
   have ch:=cm;clear K M ag;have q1:decide (i+1<cs.length)=true:=by simpa using hl1
   go_wp2_with fail;clear cy;refine wp_region_held_drew (S:=λW'=>(W'.cell? ⟨w.heap.size,0,N⟩=Z (H A n a)/\W'.cell? ⟨w.heap.size+1,0,N⟩=Z (H N 0 0)/\W'.cell? ⟨C,o1+i,N⟩=Z (I J x))/\By wr W') oK_ (KS.o _ (Below.refl _ _).drew) (λc=>?_);refine tK 0 34 ?_;refine tK 1 35 ?_;refine tK 2 36 ?_;refine tK 3 37 ?_;refine tK 4 38 ?_;refine tK 5 39 ?_;refine tK 7 41 ?_;refine tK 8 42 ?_;refine tK 9 43 ?_;refine tK 10 44 ?_;refine tK 11 45 ?_;refine qK 6 40 (H1.o _ c.2) ?_;clear c;intro W6 c;refine qK 12 46 (H2.o _ c.2) ?_;clear c;intro W7 c;refine qK 13 47 (H3.o inx _ c) ?_;clear c;intro q c;refine tK 14 12 ?_;refine wpAnyH_done oK_ ?_ _;have Bp:=c.2;have P:=c.1.2.2;have t:=tb ah Bp;have cl:=Bp.size;have s:=bb HX.o Bp;have o:=aG f.o Bp;have hO:=HX.o.lt;clear c H1 H2 H3 KS cx HX f;cases inx with
   |false=>
    have l:=G (BN.o rfl);have au:=G s;have ap:=G o;clear BN BW Y BS s o i1 i2 i3 P;go_wp2;go_roundw
    case rel=>exact⟨i+1,S,k,O,oN_,by rw[l.o],by rw[l.o];exact au.o,by rw[l.o];exact ap.o,t,O⟩
    exact oI_
   |true=>
    cases op with
    |true=>
     have l:=G (Y.o rfl rfl);obtain⟨j,y,hj,hy,X⟩:=BS.o rfl
     obtain⟨g,hS⟩:∃g,S=Z ⟨g,0,N⟩:=by
      rcases o.2 with⟨_,h0⟩|⟨g,ce,cf,a8,_⟩
      ·omega
      injection a8 with hA' _ _;exact⟨g,hA'⟩
     subst hS;have gO:r.heap.size<=g:=(o.lt g rfl).1;have az:¬g=W4.heap.size:=O;have st:=World.ownsRow.stored o (j*2+1) (I J hv);rw[sO aj j hv hy]at st;have y1:q.cell? ⟨g,j*2+1,N⟩=Z (I J y.hi):=by
      rw[World.ownsRow.cellAt o (j*2+1) O,gR Rg.cells 2 (λ_=>rfl) aj j 1 O O,(List.getElem?_eq_some_iff.1 hy).2];rfl
     have f1:=World.ownsRow.frozenAt o (j*2+1);have c8:=s.c 0 rfl;have ax:=G (s.grown st.2 (by simpa using λe=>az e.symm));have ar:=G st.1;have a6:=t.setCell (p:=⟨g,j*2+1,N⟩) (by show W4.heap.size<=g;omega) (I J hv);have HG:=G X;have HL:=G hj;clear BN BW Y BS s o st X hy P;rw[HL.o]at c8;have j1:IntKind.i64.wrap (((j+1:Nat):Int)-1)=(j:Int):=by rw[IntWalk.i64_in _ O];omega
     go_wp2;go_roundw
     case rel=>exact⟨i+1,Z ⟨g,0,N⟩,k,O,oN_,by rw[l.o],by rw[l.o];dsimp only;rw[HG.o,List.length_set];exact ax.o,by rw[l.o];dsimp only;rw[HG.o,List.length_set];exact ar.o,a6,oU_⟩
     exact oI_
    |false=>
     have l:=G (BW.o rfl rfl);have c8:=s.c 0 rfl;have F:By q (q.alloc (.cells #[I J x,I J hv] 179)).drew:=(ba _ _).drew;have an:=G (aG o F);have ao:Hi (Sl (q.alloc (.cells #[I J x,I J hv] 179)).drew (Z ⟨q.heap.size,0,N⟩) (Rg.cells ⟨x,hv⟩)):=G (bI q (Rg.cells ⟨x,hv⟩) 179 rfl);have aw:=G (s.below F O);have a5:=tb t F;have a9:r.heap.size<=(q.alloc (.cells #[I J x,I J hv] 179)).drew.heap.size:=Nat.le_trans (by omega:r.heap.size<=q.heap.size) F.size;have a0:W4.heap.size<=r.heap.size:=O;have Q:W4.heap.size<r.heap.size:=O;have ci:W4.heap.size<q.heap.size:=O;have bu:C<q.heap.size:=by have:C<_:=a4;omega
     clear BN BW Y BS s o F;go_wp2_with fail;go_region_law (refine D_ rfl (.tmp 67) (.tmp 74) 24 179 (.agg #[I J 0,I J 0]) 2 16 rfl underlying24 nX rfl V V rfl an.o rfl ao.o rfl (oD _) O a9 ?_;intro A9 c9 w9 m ck z bw _;have B:=aw.o.below z Q;have o9:=B.c 0 rfl;have f9:=B.free 0;have av:=G B;have aq:=G m;have T:=a5.trans (z.mono a0);have cq:=T.size;clear B m)
     all_goals
      go_wp2;go_roundw
      case rel=>
       refine⟨i+1,A9,c9,O,oN_,by rw[l.o],?_,?_,?_,?_⟩
       ·rw[l.o];dsimp only;rw[List.length_append];exact av.o.set 0 _
       ·rw[l.o];dsimp only;rw[List.length_append,iA];exact pU aq.o (p:=⟨W4.heap.size,0,N⟩) Q _
       ·exact T.setCell (p:=⟨W4.heap.size,0,N⟩) (Nat.le_refl _) _
       have:=z.size;simp at this|-;omega
      exact oI_
  have ev:=M.o hl1;subst ev;clear K M ag;have q1:decide (i+1<cs.length)=false:=by simpa using hl1
  go_wp2_with fail;refine wp_region_held_drew (S:=λW'=>(W'.cell? ⟨w.heap.size,0,N⟩=Z (H A n a)/\W'.cell? ⟨w.heap.size+1,0,N⟩=Z (H N 0 0)/\W'.cell? ⟨C,o1+i,N⟩=Z (I J x))/\By wr W') oK_ (KS.o _ (Below.refl _ _).drew) (λc=>?_);refine tK 0 34 ?_;refine tK 1 35 ?_;refine tK 2 36 ?_;refine tK 3 37 ?_;refine tK 4 38 ?_;refine tK 5 39 ?_;refine tK 7 41 ?_;refine tK 8 42 ?_;refine tK 9 43 ?_;refine tK 10 44 ?_;refine tK 11 45 ?_;refine qK 6 40 (H1.o _ c.2) ?_;clear c;intro W6 c;refine qK 12 46 (H2.o _ c.2) ?_;clear c;intro W7 c;refine qK 13 47 (H3.o inx _ c) ?_;clear c;intro q c;refine tK 14 12 ?_;refine wpAnyH_done oK_ ?_ _;have Bp:=c.2;have P:=c.1.2.2;have t:=tb ah Bp;have cl:=Bp.size;have s:=bb HX.o Bp;have o:=aG f.o Bp;have hO:=HX.o.lt;clear c H1 H2 H3 KS cx HX f;cases inx with
  |false=>
   have l:=G (BN.o rfl);have au:=G s;have ap:=G o;clear BN BW Y BS s o i1 i2 i3 P;go_wp2;go_roundw
   case rel=>exact⟨i+1,S,k,O,oN_,by rw[l.o],by rw[l.o];exact au.o,by rw[l.o];exact ap.o,t,O⟩
   exact oI_
  |true=>
   cases op with
   |true=>
    have l:=G (Y.o rfl rfl);obtain⟨j,y,hj,hy,X⟩:=BS.o rfl
    obtain⟨g,hS⟩:∃g,S=Z ⟨g,0,N⟩:=by
     rcases o.2 with⟨_,h0⟩|⟨g,ce,cf,a8,_⟩
     ·omega
     injection a8 with hA' _ _;exact⟨g,hA'⟩
    subst hS;have gO:r.heap.size<=g:=(o.lt g rfl).1;have az:¬g=W4.heap.size:=O;have st:=World.ownsRow.stored o (j*2+1) (I J 1114111);rw[sO aj j 1114111 hy]at st;have y1:q.cell? ⟨g,j*2+1,N⟩=Z (I J y.hi):=by
     rw[World.ownsRow.cellAt o (j*2+1) O,gR Rg.cells 2 (λ_=>rfl) aj j 1 O O,(List.getElem?_eq_some_iff.1 hy).2];rfl
    have f1:=World.ownsRow.frozenAt o (j*2+1);have c8:=s.c 0 rfl;have ax:=G (s.grown st.2 (by simpa using λe=>az e.symm));have ar:=G st.1;have a6:=t.setCell (p:=⟨g,j*2+1,N⟩) (by show W4.heap.size<=g;omega) (I J 1114111);have HG:=G X;have HL:=G hj;clear BN BW Y BS s o st X hy P;rw[HL.o]at c8;have j1:IntKind.i64.wrap (((j+1:Nat):Int)-1)=(j:Int):=by rw[IntWalk.i64_in _ O];omega
    go_wp2;go_roundw
    case rel=>exact⟨i+1,Z ⟨g,0,N⟩,k,O,oN_,by rw[l.o],by rw[l.o];dsimp only;rw[HG.o,List.length_set];exact ax.o,by rw[l.o];dsimp only;rw[HG.o,List.length_set];exact ar.o,a6,oU_⟩
    exact oI_
   |false=>
    have l:=G (BW.o rfl rfl);have c8:=s.c 0 rfl;have F:By q (q.alloc (.cells #[I J x,I J 1114111] 179)).drew:=(ba _ _).drew;have an:=G (aG o F);have ao:Hi (Sl (q.alloc (.cells #[I J x,I J 1114111] 179)).drew (Z ⟨q.heap.size,0,N⟩) (Rg.cells ⟨x,1114111⟩)):=G (bI q (Rg.cells ⟨x,1114111⟩) 179 rfl);have aw:=G (s.below F O);have a5:=tb t F;have a9:r.heap.size<=(q.alloc (.cells #[I J x,I J 1114111] 179)).drew.heap.size:=Nat.le_trans (by omega:r.heap.size<=q.heap.size) F.size;have a0:W4.heap.size<=r.heap.size:=O;have Q:W4.heap.size<r.heap.size:=O;have ci:W4.heap.size<q.heap.size:=O;have bu:C<q.heap.size:=by have:C<_:=a4;omega
    clear BN BW Y BS s o F;go_wp2_with fail;go_region_law (refine D_ rfl (.tmp 67) (.tmp 74) 24 179 (.agg #[I J 0,I J 0]) 2 16 rfl underlying24 nX rfl V V rfl an.o rfl ao.o rfl (oD _) O a9 ?_;intro A9 c9 w9 m ck z bw _;have B:=aw.o.below z Q;have o9:=B.c 0 rfl;have f9:=B.free 0;have av:=G B;have aq:=G m;have T:=a5.trans (z.mono a0);have cq:=T.size;clear B m)
    all_goals
     go_wp2;go_roundw
     case rel=>
      refine⟨i+1,A9,c9,O,oN_,by rw[l.o],?_,?_,?_,?_⟩
      ·rw[l.o];dsimp only;rw[List.length_append];exact av.o.set 0 _
      ·rw[l.o];dsimp only;rw[List.length_append,iA];exact pU aq.o (p:=⟨W4.heap.size,0,N⟩) Q _
      ·exact T.setCell (p:=⟨W4.heap.size,0,N⟩) (Nat.le_refl _) _
      have:=z.size;simp at this|-;omega
     exact oI_
 obtain rfl:i=cs.length:=O;have B:=HX.o;have ay:=(X0.below a3 cp);have c9:=B.c 0 rfl;have z9:=ay.c 0 rfl;have f9:=ay.free 0;have du:W4.heap.size<wr.heap.size:=B.lt;have c5:¬W4.heap.size=w.heap.size+2:=O;have c6:¬w.heap.size+2=W4.heap.size:=O;rw[<-HR.o]at c9 f;have cj:=bv.setCell (p:=⟨w.heap.size+2,0,N⟩) (by show w.heap.size<=w.heap.size+2;omega) (H S R.length k);have ca:=G (Sl.of_own (pU f.o (p:=⟨w.heap.size+2,0,N⟩) (by show w.heap.size+2<r.heap.size;omega) (H S R.length k)));have hc:=uC f.o;clear HX B ay HR f;go_wp2_with fail;(try simp only[Exit.inBlock,Exit.then]);refine bodyPost_ret (WX _ _ (b:=w.heap.size+2) (v0:=H S R.length k) rfl oS_) rfl ?_;exact⟨S,k,rfl,hc,ca.o,cj⟩
theorem W_(tmps:Array Value)(w:Wv){b:Nat}{v0:Value}(ha:tmps.getD 2 undef=.pointer (Z ⟨b,0,N⟩))(c0:w.cell? ⟨b,0,N⟩=Z v0):
  (results f151 tmps).run prog w=.ok (.agg #[v0]) w:=by
 have hr:f151.results=#[.cell 2 26]:=rfl;unfold results;rw[hr];simp only[ha,List.mapM_toArray,List.mapM_cons,List.mapM_nil,asAddr];go_simp
theorem WB(A:Oa)(n a:Nat)(rs:List Rg)(w:Wv)(hA:Rgs w A rs)(hn:rs.length=n)(hz:n<=1000):
  Calls prog 151 #[H A n a] w (rF (eI rs) w):=by
 have k:By w (w.alloc (.cells #[H N 0 0] 26)):=ba _ _;have s:Box (w.alloc (.cells #[H N 0 0] 26)) w.heap.size 26 [H N 0 0]:=Box.new _ _ _ rfl;have l:=G (MJ A n a rs (w.alloc (.cells #[H N 0 0] 26)) (hA.below k) hn hz);have q:∃v,(w.alloc (.cells #[H N 0 0] 26))=v:=⟨_,rfl⟩;generalize eI rs=R at *;clear hA;go_enter func151,ntmps151;go_wp2_with fail;obtain⟨v,g⟩:=q;rw[g]at k s l|-;clear g;refine l.o.mono ?_
 rintro e x ⟨E,d,rfl,hd,B,h⟩;have c:=bb s h;have F:=c.c 0 rfl;have M:=c.free 0;have L:=c.lt;have D:=G B
 have C:=U (Rgs (x.setCell ⟨w.heap.size,0,N⟩ (H E R.length d)) E R) (λhne=>by
  obtain⟨b,o,hA,hc⟩:=D.o hne
  refine⟨b,o,hA,λj u hu=>?_⟩
  have y:=hc j u hu
  refine(World.cell?_setCell_far _ _ _ _ (λe=>?_)).trans y
  have K:w.heap.size=b:=e
  subst K
  have f:x.cell? ⟨w.heap.size,o+j,N⟩=Z u:=y
  have i:∃z,u=I J z:=by
   have hm:u∈aB Rg.cells R:=List.mem_of_getElem? hu
   obtain⟨r,_,hr⟩:=List.mem_flatMap.1 hm
   simp only[Rg.cells,List.mem_cons,List.not_mem_nil,or_false]at hr
   rcases hr with rfl|rfl
   ·exact⟨_,rfl⟩
   exact⟨_,rfl⟩
  obtain⟨z,rfl⟩:=i
  unfold Box at c
  rcases hoj:o+j with _|m
  ·rw[hoj]at f;rw[F]at f;cases f
  ·rw[hoj]at f
   simp[World.cell?,c]at f)
 have t:=(tb k h).setCell (p:=⟨w.heap.size,0,N⟩) (Nat.le_refl _) (H E R.length d);clear l s c B;go_wp2_with fail;(try simp only[Exit.inBlock,Exit.then]);refine bodyPost_ret (W_ _ _ (b:=w.heap.size) (v0:=H E R.length d) rfl oS_) rfl ?_;exact⟨E,d,rfl,hd,C.o,t⟩
theorem pS(a b c d:Int)(w:Wv):(binOp .neq 179 (.agg #[I J a,I J b]) (.agg #[I J c,I J d])).run prog w=.ok (.bool (!decide ((⟨a,b⟩:Rg)=⟨c,d⟩))) w:=by
 have g:=underlying3;have f:=isAgg3;have h:=sizeOf3;have e:prog.underlying 179=Z (.struct (prog.fieldsOf 179)):=oK_;have hp:prog.stoodInHeld 179=false:=oK_;rw[run_neq_struct,show(10000:Nat)=9999+1 from rfl,run_equalIn_agg w 9999 179 _ _ e hp];simp only[Program.fieldsOf,underlying179];go_simp;by_cases h2:a=c<;>by_cases h3:b=d<;>simp[h2,h3]
theorem DO{xs ys:List Rg}(h:xs.length≠ys.length):decide (xs=ys)=false:=by simp;exact λe=>h (by rw[e])
theorem DQ{xs ys:List Rg}{k:Nat}(h1:k<xs.length)(h2:k<ys.length)(h:¬xs[k]=ys[k]):decide (xs=ys)=false:=by simp;rintro rfl;exact h rfl
theorem DM{xs ys:List Rg}(hl:xs.length=ys.length)(h:∀t,(h1:t<xs.length)->(h2:t<ys.length)->xs[t]=ys[t]):decide (xs=ys)=true:=by simp;exact List.ext_getElem hl h
theorem WH(A:Oa)(n a:Nat)(B:Oa)(m b:Nat)(xs ys:List Rg)(w:Wv)(hA:Rgs w A xs)(hB:Rgs w B ys)(hn:xs.length=n)(hm:ys.length=m)(hz:n<=1048576)(hz2:m<=1048576):
  Calls prog 150 #[.agg #[H A n a],.agg #[H B m b]] w (c_ (decide (xs=ys)) w):=by
 subst hn;subst hm;have P:=G (DO (xs:=xs) (ys:=ys));have S2:=G (λk h1 h2 h=>DQ (xs:=xs) (ys:=ys) (k:=k) h1 h2 h);have Q:=G (DM (xs:=xs) (ys:=ys));generalize decide (xs=ys)=R at *;have j:By w ((w.alloc (.cells #[H A xs.length a] 26)).alloc (.cells #[H B ys.length b] 26)):=(ba _ _).alloc L _;have T:((w.alloc (.cells #[H A xs.length a] 26)).alloc (.cells #[H B ys.length b] 26)).cell? ⟨w.heap.size,0,N⟩=Z (H A xs.length a):=L;have V:((w.alloc (.cells #[H A xs.length a] 26)).alloc (.cells #[H B ys.length b] 26)).cell? ⟨w.heap.size+1,0,N⟩=Z (H B ys.length b):=L;have s0:((w.alloc (.cells #[H A xs.length a] 26)).alloc (.cells #[H B ys.length b] 26)).heap.size=w.heap.size+2:=L;have D:∃o,((w.alloc (.cells #[H A xs.length a] 26)).alloc (.cells #[H B ys.length b] 26))=o:=⟨_,rfl⟩;have K:=G (hA.below j);have M:=G (hB.below j);clear hA hB;by_cases hl:xs.length=ys.length;rotate_left
 ·obtain rfl:=P.o hl
  have X:((xs.length:Int)!=(ys.length:Int))=true:=oU_;go_enter func150,ntmps150;go_wp2;go_ret;exact⟨rfl,j⟩
 have X:((xs.length:Int)!=(ys.length:Int))=false:=oU_;have HL:=G hl;have ad:xs.length<=ys.length:=O;have C:=G (Q.o hl);clear hl P Q;go_enter func150,ntmps150;go_wp2_with fail;obtain⟨o,q⟩:=D;rw[q]at j T V s0 K M|-;clear q X;have E:w.heap.size<o.heap.size:=O;have F:w.heap.size+1<o.heap.size:=O;go_loopw [5] (λu wr=>∃i:Nat,i<=xs.length/\u=I J i/\(∀t,(h1:t<xs.length)->(h2:t<ys.length)->t<i->xs[t]=ys[t])/\By o wr) (λu _=>xs.length-(intOf u).toNat)
 case atStart=>exact⟨0,Nat.zero_le _,rfl,λt _ _ h=>O,Below.refl _ _⟩
 obtain⟨i,hi,rfl,r,c⟩:=hrel;have l:=G r;clear r;have f0:=(c.cell (p:=⟨w.heap.size,0,N⟩) E).trans T;have f1:=(c.cell (p:=⟨w.heap.size+1,0,N⟩) F).trans V;by_cases hlt:i<xs.length
 ·have g:i<ys.length:=O
  obtain⟨b1,o1,rfl,ab,f⟩:=(K.o.below c).at hlt;obtain⟨c1,c2⟩:=f i hlt;obtain⟨b2,o2,rfl,S,d⟩:=(M.o.below c).at g;obtain⟨d1,d2⟩:=d i g;have v:=G (λh=>S2.o i hlt g h)
  have s:=G (λ(h:xs[i]=ys[i])=>show ∀t,(h1:t<xs.length)->(h2:t<ys.length)->t<i+1->xs[t]=ys[t]from λt h1 h2 ht=>by
   by_cases e:t<i
   ·exact l.o t h1 h2 e
   ·obtain rfl:t=i:=O
    exact h)
  clear f d;generalize xs[i]=x at *;generalize ys[i]=y at *;obtain⟨xl,xh⟩:=x;obtain⟨yl,yh⟩:=y;dsimp only at *;have i1:(0:Int)<=(i:Int):=O;have i2:(i:Int)<(xs.length:Int):=O;have i3:((i:Int)).toNat=i:=O;have i4:(i:Int)<(ys.length:Int):=O;by_cases he:(⟨xl,xh⟩:Rg)=⟨yl,yh⟩
  ·have Y:=G (s.o he)
   have z:∀W,(binOp .neq 179 (.agg #[I J xl,I J xh]) (.agg #[I J yl,I J yh])).run prog W=.ok (.bool false) W:=λW=>by rw[pS,he];simp
   clear v s he;go_wp2;go_quiet(fail);go_wp2;go_roundw
   case rel=>exact⟨i+1,O,oN_,Y.o,bU c _⟩
   exact oI_
  obtain rfl:=v.o he;have z:∀W,(binOp .neq 179 (.agg #[I J xl,I J xh]) (.agg #[I J yl,I J yh])).run prog W=.ok (.bool true) W:=λW=>by rw[pS,decide_eq_false he];rfl
  clear v s he;go_wp2;go_quiet(fail);go_wp2;go_ret;exact⟨rfl,j.trans ((bU c _).mono j.size)⟩
 obtain rfl:=C.o (λt h1 h2=>l.o t h1 h2 O);go_wp2;go_ret;exact⟨rfl,tb j c⟩
theorem wF(rs:List Rg):(eI rs).length<=2*rs.length+2:=by
 unfold eI;have a:=rR (p:=bO rs) (cs:=bQ (bQ [] rs) []) (bQ (bQ [] rs) []).length;have b:(bQ (bQ [] rs) []).length<=(bQ [] rs).length+2*0+1:=pB [] (bQ [] rs);have c:(bQ [] rs).length<=0+2*rs.length+1:=pB rs [];omega
theorem WI(A:Oa)(n a:Nat)(rs:List Rg)(w:Wv)(hA:Rgs w A rs)(hn:rs.length=n)(hz:n<=1000):
  Calls prog 98 #[.agg #[H A n a]] w (c_ (iE rs) w):=by
 have f:By w (w.alloc (.cells #[H A n a] 26)):=ba _ _;have m:(w.alloc (.cells #[H A n a] 26)).cell? ⟨w.heap.size,0,N⟩=Z (H A n a):=L;have z:(w.alloc (.cells #[H A n a] 26)).heap.size=w.heap.size+1:=L;have k:∃c,(w.alloc (.cells #[H A n a] 26))=c:=⟨_,rfl⟩;have t:=G (λW(hb:By w W)=>WB A n a rs W (hA.below hb) hn hz);have hl:=wF rs;have x:=G (λE d W(hb:By w W)hE=>WH A n a E (eI rs).length d rs (eI rs) W (hA.below hb) hE hn rfl O O);have s:=G (show decide (rs=eI rs)=iE rs by unfold iE;rw[Bool.eq_iff_iff];simp;exact eq_comm);generalize decide (rs=eI rs)=R1 at *;generalize iE rs=R2 at *;generalize eI rs=cr at *;clear hA;go_enter func98,ntmps98;go_wp2_with fail;obtain⟨c,h⟩:=k;rw[h]at f m z|-;clear h;have l:w.heap.size<c.heap.size:=O;have j:=U (∀W',By c W'->W'.cell? ⟨w.heap.size,0,N⟩=Z (H A n a)/\By c W') (λW' hb=>⟨(hb.cell (p:=⟨w.heap.size,0,N⟩) l).trans m,hb⟩);have o:=G (λW(hb:By c W)=>(t.o W (tb f hb)).mono (R':=λe W'=>∃v,e=.returned v/\(W'.cell? ⟨w.heap.size,0,N⟩=Z (H A n a)/\By c W')/\(∃E d,v=.agg #[H E cr.length d]/\Rgs W' E cr)) (λe w'⟨E,d,he,_,hE,hb'⟩=>⟨_,he,j.o w' (tb hb hb'),E,d,rfl,hE⟩));have q:=G (λE d W(hb:By c W)hE=>(x.o E d W (tb f hb) hE).mono (R':=λe W'=>e=.returned (.bool R1)/\(W'.cell? ⟨w.heap.size,0,N⟩=Z (H A n a)/\By c W')) (λe w'⟨he,hb'⟩=>⟨he,j.o w' (tb hb hb')⟩));refine wp_region_held_drew (S:=λW'=>W'.cell? ⟨w.heap.size,0,N⟩=Z (H A n a)/\By c W') oK_ (j.o _ (Below.refl _ _).drew) (λb=>?_);refine tK 0 3 ?_;refine tK 1 4 ?_;refine tK 2 5 ?_;refine iN (i:=3) (Z 6) rfl rfl oK_ oR_ oS_ (o.o _ b.2) (λv W3 hS6 hR6=>?_);obtain⟨r,y,rfl,g⟩:=hR6;clear b;have b:=hS6;clear hS6;try simp only[Act.put,sA,sB,sC]
 refine vP (i:=4) (Z 7) rfl rfl oK_ oR_ oS_ (q.o r y _ b.2 g) (λW4 hS6=>?_);clear b g;have b:=hS6;clear hS6;try simp only[Act.put,sA,sB,sC]
 refine tK 5 2 ?_;refine wpAnyH_done oK_ ?_ _;go_wp2;go_ret;exact⟨cY s.o,f.trans (b.2.mono f.size)⟩
theorem RD(n:Nat)(h:n<=12)(w:Wv):Calls prog 220 #[.int .u64 n] w (λe w'=>(∃z:Int,e=.returned (I J z))/\w=w'):=by
 obtain rfl|rfl|rfl|rfl|rfl|rfl|rfl|rfl|rfl|rfl|rfl|rfl|rfl:n=0\/n=1\/n=2\/n=3\/n=4\/n=5\/n=6\/n=7\/n=8\/n=9\/n=10\/n=11\/n=12:=O
 all_goals
  go_enter func220,ntmps220;go_wp2;go_ret;exact⟨⟨_,rfl⟩,rfl⟩
end
end Go.Proofs.YtkhmjidaeliccaaGreatDoor
