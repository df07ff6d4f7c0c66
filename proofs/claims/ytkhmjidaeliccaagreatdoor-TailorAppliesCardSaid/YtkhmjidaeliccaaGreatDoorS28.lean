import Derived.Test.YtkhmjidaeliccaaGreatDoorS25
import Derived.Shelf.Strings.OnBuilder
import Derived.Shelf.Strings.BuilderK
set_option maxRecDepth 100000
set_option maxHeartbeats 51200000
namespace Go.Proofs.YtkhmjidaeliccaaGreatDoor
open Option renaming none->N,some->Z
open Value renaming int->I,slice->H
open IntKind renaming i64->J
open Go.Proofs.Tryz
namespace Pa
open Go.RowKit Tl
def nH(m:Nat):Nat:=if m<65536 then 4 else if m<1048576 then 5 else 6
theorem nH_bd(m:Nat):4<=nH m/\nH m<=6:=by unfold nH;split;omega;split<;>omega
def dgH(m j:Nat):Int:=hd ((m/16^j%16:Nat):Int)
def bufI(m i:Nat):Li:=(List.range 6).map λk=>if 5-k<i then dgH m (5-k)else 0
theorem dgH_eq(m:Nat):dgH m 0=hd ((m:Int)%16)/\dgH m 1=hd ((m:Int)/16%16)/\dgH m 2=hd ((m:Int)/256%16)/\dgH m 3=hd ((m:Int)/4096%16)/\dgH m 4=hd ((m:Int)/65536%16)/\dgH m 5=hd ((m:Int)/1048576%16):=by
 unfold dgH;simp only[Nat.reducePow];refine⟨congrArg hd ?_,congrArg hd ?_,congrArg hd ?_,congrArg hd ?_,congrArg hd ?_,congrArg hd ?_⟩<;>omega
theorem hexI_buf{m:Nat}(hm:m<=1114111):hexI (m:Int)=(bufI m (nH m)).drop (6-nH m):=by
 obtain⟨a,b,c,d,e,f⟩:=dgH_eq m;unfold hexI nH;by_cases h1:m<65536
 ·rw[if_pos O,if_pos h1]
  show _=[dgH m 3,dgH m 2,dgH m 1,dgH m 0]
  rw[a,b,c,d,show(m:Int)/4096%16=(m:Int)/4096 by omega]
 rw[if_neg O,if_neg h1];by_cases h2:m<1048576
 ·rw[if_pos O,if_pos h2]
  show _=[dgH m 4,dgH m 3,dgH m 2,dgH m 1,dgH m 0]
  rw[a,b,c,d,e,show(m:Int)/65536%16=(m:Int)/65536 by omega]
 rw[if_neg O,if_neg h2];show _=[dgH m 5,dgH m 4,dgH m 3,dgH m 2,dgH m 1,dgH m 0]
 rw[a,b,c,d,e,f,show(m:Int)/1048576%16=(m:Int)/1048576 by omega]
theorem nH_stop{m i:Nat}(hm:m<=1114111)(hi:i<=nH m)(h4:4<=i)(h0:m/16^i=0):i=nH m:=by
 have hb:=nH_bd m;have h:i=4\/i=5\/i=6:=O;unfold nH at *;rcases h with rfl|rfl|rfl
 ·have:m<65536:=by simp only[Nat.reducePow]at h0;omega
  rw[if_pos this]
 ·have:m<1048576:=by simp only[Nat.reducePow]at h0;omega
  split at hi
  ·omega
  rw[if_neg oA_,if_pos this]
 split at hi
 ·omega
 split at hi
 ·omega
 rw[if_neg oA_,if_neg oA_]
def byt(r:Li):List UInt8:=r.map λn=>UInt8.ofNat n.toNat
def By8(r:Li):Prop:=∀z∈r,0<=z/\z<256
theorem By8.app{r s:Li}(h:By8 r)(g:By8 s):By8 (r++s):=λz hz=>by
 rcases List.mem_append.1 hz with e|e
 ·exact h z e
 exact g z e
end Pa
section
open Go.RowKit Go.Maps Go.WideMaps Tl Pa
def qQ(w:Wv):Prop:=∀i:Nat,i<16->w.cell? ⟨0,i,N⟩=Z (.int .u8 (hd i))
theorem qQ.below{w w':Wv}(h:qQ w)(hb:By w w'):qQ w':=λi hi=>(hb.cell (World.block_lt_of_cell? w _ (h i hi))).trans (h i hi)
end
section
open Go.Shelf Go.RowKit
def RB:Ren:=⟨fun|156=>137|165=>175|166=>75|169=>77|240=>134|241=>193|276=>174|277=>205|n=>n,fun|31=>132|9=>9|3=>3|4=>4|0=>0|20=>20|72=>125|76=>128|70=>122|37=>123|75=>127|127=>194|164=>217|5=>5|80=>131|n=>n,λn=>n⟩
theorem layJ:Lays.n156 prog RB:={
 mixed:=oK_,
 f156:=func137.trans (congrArg Z oK_),
 f165:=func175.trans (congrArg Z oK_),
 f166:=func75.trans (congrArg Z oK_),
 f169:=func77.trans (congrArg Z oK_),
 f240:=func134.trans (congrArg Z oK_),
 f241:=func193.trans (congrArg Z oK_),
 f276:=func174.trans (congrArg Z oK_),
 f277:=func205.trans (congrArg Z oK_),
 t0:=underlying0,
 a0:=isAgg0,
 z0:=sizeOf0,
 v0:=zeroValue0,
 t3:=underlying3,
 a3:=isAgg3,
 z3:=sizeOf3,
 v3:=zeroValue3,
 t4:=underlying4,
 a4:=isAgg4,
 z4:=sizeOf4,
 v4:=zeroValue4,
 t9:=underlying9,
 a9:=isAgg9,
 z9:=sizeOf9,
 v9:=zeroValue9,
 t20:=underlying20,
 a20:=isAgg20,
 z20:=sizeOf20,
 v20:=zeroValue20,
 t31:=underlying132,
 a31:=isAgg132,
 z31:=sizeOf132,
 v31:=zeroValue132,
 t37:=underlying123,
 a37:=isAgg123,
 z37:=sizeOf123,
 v37:=zeroValue123,
 t70:=underlying122,
 a70:=isAgg122,
 z70:=sizeOf122,
 v70:=zeroValue122,
 t72:=underlying125,
 a72:=isAgg125,
 z72:=sizeOf125,
 v72:=zeroValue125,
 t75:=underlying127,
 a75:=isAgg127,
 z75:=sizeOf127,
 v75:=zeroValue127,
 t76:=underlying128,
 a76:=isAgg128,
 z76:=sizeOf128,
 v76:=zeroValue128,
 t127:=underlying194,
 a127:=isAgg194,
 z127:=sizeOf194,
 v127:=zeroValue194,
 t164:=underlying217,
 a164:=isAgg217,
 z164:=sizeOf217,
 v164:=zeroValue217 }
end
section
open Go.RowKit Go.Maps Go.WideMaps Go.Shelf Tl Pa
def Bld(B b:Nat)(r:Li)(w:Wv):Prop:=Lib.IsBuilderF 125 5 B b (Lib.byteCells (byt r)) w
theorem Bld.new(w:Wv)(n:Nat)(h:w.heap.size=n):Bld n n [] (w.alloc (.cells #[.pointer N,H N 0 0] 125)):=by
 subst h;exact .inl ⟨Nat.le_refl _,H N 0 0,heap_alloc_new w _,⟨rfl,.inl ⟨rfl,rfl⟩⟩,λe=>by cases e⟩
theorem Bld.below{B b:Nat}{r:Li}{w w':Wv}(h:Bld B b r w)(hb:By w w'):Bld B b r w':=by
 have a:∀p,Lib.BuilderAtF 125 5 B b p (Lib.byteCells (byt r)) w->Lib.BuilderAtF 125 5 B b p (Lib.byteCells (byt r)) w':=λp hp=>by
  have hl:=hp.lt;obtain⟨c,v,d,f,g⟩:=hp;refine⟨c,v,(hb.block b hl).trans d,f.kept (row:=N) ⟨hb.os,hb.tape,hb.output,hb.size,λk hk _=>hb.block k hk⟩ ?_,g⟩;cases v.ownBlock with
  |none=>exact .inl rfl
  |some q=>exact .inr (λe=>by cases e)
 exact h.elim (λx=>.inl (a _ x)) (λx=>.inr (a _ x))
theorem Bld.lt{B b:Nat}{r:Li}{w:Wv}(h:Bld B b r w):b<w.heap.size:=h.elim (λx=>x.lt) (λx=>x.lt)
theorem Box.kept{w w':Wv}{b n:Nat}{t:TypeId}{cs:Lv}(h:Box w n t cs)(hk:Lib.OthersKept 5 (Z b) w w')(hn:n≠b)(ht:t≠5):Box w' n t cs:=
 hk n _ h (λe=>hn (Option.some.inj e)) (λc fz e=>by injection e with e1 e2 e3;exact ht e2)
theorem qG(a b:Li):strOfNums (a++b)=strOfNums a++strOfNums b:=by
 apply ByteArray.ext;rw[ByteArray.data_append];simp[strOfNums]
theorem wB(z:Int)(r:Li):strOfNums (z::r)=strOfNums [z]++strOfNums r:=qG [z] r
def lF(m:Nat):Nat->Li
 |0=>[]
 |i+1=>dgH m i::lF m i
theorem xG(m:Nat):∀i,(lF m i).length=i
 |0=>rfl
 |i+1=>by show(dgH m i::lF m i).length=i+1;rw[List.length_cons,xG m i]
theorem PM{m:Nat}(hm:m<=1114111):hexI (m:Int)=lF m (nH m):=by
 rw[hexI_buf hm];have hb:=nH_bd m;rcases show nH m=4\/nH m=5\/nH m=6 by omega with h|h|h<;>rw[h]<;>rfl
theorem PK(k:Nat)(hk:k<16):(⟨#[48,49,50,51,52,53,54,55,56,57,65,66,67,68,69,70]⟩:ByteArray).extract k (k+1)=strOfNums [hd (k:Int)]:=by
 rcases show k=0\/k=1\/k=2\/k=3\/k=4\/k=5\/k=6\/k=7\/k=8\/k=9\/k=10\/k=11\/k=12\/k=13\/k=14\/k=15 by omega with rfl|rfl|rfl|rfl|rfl|rfl|rfl|rfl|rfl|rfl|rfl|rfl|rfl|rfl|rfl|rfl<;>rfl
theorem zU{m i:Nat}(hm:m<=1114111)(hn:i<=nH m)(h:i<4\/0<m/16^i):i<nH m:=by
 have hb:=nH_bd m;rcases h with h|h
 ·omega
 by_cases e:i=nH m
 ·exfalso
  rw[e]at h;unfold nH at h;split at h
  ·simp only[Nat.reducePow]at h;omega
  split at h
  ·simp only[Nat.reducePow]at h;omega
  simp only[Nat.reducePow]at h;omega
 omega
theorem VZ(c:Int)(w:Wv)(hc:0<=c/\c<=1114111):Calls prog 138 #[I J c] w (λe w'=>e=.returned (.string (strOfNums (hexI c)))/\w=w'):=by
 obtain⟨m,rfl⟩:∃m:Nat,c=m:=⟨c.toNat,O⟩;have hm:m<=1114111:=O;have hv:inR 0 1114111 (m:Int)=true:=by unfold inR;simp;omega
 have v:=G (λW=>fM (m:Int) W);rw[hv]at v;have A:=G (PM hm);have y:=G PK;clear hv;go_enter func138,ntmps138;go_wp2_with fail;refine(v.o _).mono ?_
 rintro e D ⟨rfl,rfl⟩;clear v;go_wp2;go_loop [0,3] (λu0 u3=>∃i q:Nat,i<=nH m/\q=m/16^i/\u0=I J q/\u3=.string (strOfNums (lF m i))) (λ_ u=>match u with | .string s=>6-s.size|_=>0)
 case atStart=>exact⟨0,m,Nat.zero_le _,L,rfl,rfl⟩
 obtain⟨i,q,hn,hq,rfl,rfl⟩:=hrel;obtain⟨sx,a⟩:=exQ (strOfNums (lF m i));have b:sx.size=i:=by rw[<-a,strOfNums_size,xG]
 rw[a];by_cases h4:i<4
 ·have B:decide ((sx.size:Int)<4)=true:=oU_
  have d:i<4\/0<m/16^i:=.inl h4;have o:=zU hm hn d;have n:((q%16:Nat):Int)<16:=O;have g:q%16<16:=Nat.mod_lt _ V;have r:q<=1114111:=by rw[hq];exact Nat.le_trans (Nat.div_le_self _ _) hm
  have h:Int.tmod (q:Int) 16=((q%16:Nat):Int):=by rw[Int.tmod_eq_emod_of_nonneg O];omega
  have t:Int.tdiv (q:Int) 16=((q/16:Nat):Int):=by rw[Int.tdiv_eq_ediv_of_nonneg O];omega
  have k:=U (q/16=m/16^(i+1)) (by rw[hq,Nat.div_div_eq_div_mul,Nat.pow_succ]);have p:=U (strOfNums (lF m (i+1))=strOfNums [hd ((q%16:Nat):Int)]++sx) (by rw[<-a,hq];exact wB _ _);have hcut:=y.o (q%16) g;have j:(strOfNums [hd ((q%16:Nat):Int)]).size=1:=rfl;obtain⟨kq,f⟩:=exQ (q%16);rw[f]at n g h p hcut j;have x:sx.size<=6:=by rw[b];exact Nat.le_trans hn (nH_bd m).2
  have l:=G b;clear f hq a d b;go_wp2;go_round
  case rel=>exact⟨i+1,q/16,o,k.o,oN_,by rw[p.o]⟩
  simp[ByteArray.size_append,j,l.o];have:=(nH_bd m).2;omega
 have B:decide ((sx.size:Int)<4)=false:=oU_;by_cases h0:0<q
 ·have C:decide ((0:Int)<(q:Int))=true:=oU_
  have d:i<4\/0<m/16^i:=.inr (by rw[<-hq];exact h0);have o:=zU hm hn d;have n:((q%16:Nat):Int)<16:=O;have g:q%16<16:=Nat.mod_lt _ V;have r:q<=1114111:=by rw[hq];exact Nat.le_trans (Nat.div_le_self _ _) hm
  have h:Int.tmod (q:Int) 16=((q%16:Nat):Int):=by rw[Int.tmod_eq_emod_of_nonneg O];omega
  have t:Int.tdiv (q:Int) 16=((q/16:Nat):Int):=by rw[Int.tdiv_eq_ediv_of_nonneg O];omega
  have k:=U (q/16=m/16^(i+1)) (by rw[hq,Nat.div_div_eq_div_mul,Nat.pow_succ]);have p:=U (strOfNums (lF m (i+1))=strOfNums [hd ((q%16:Nat):Int)]++sx) (by rw[<-a,hq];exact wB _ _);have hcut:=y.o (q%16) g;have j:(strOfNums [hd ((q%16:Nat):Int)]).size=1:=rfl;obtain⟨kq,f⟩:=exQ (q%16);rw[f]at n g h p hcut j;have x:sx.size<=6:=by rw[b];exact Nat.le_trans hn (nH_bd m).2
  have l:=G b;clear f hq a d b;go_wp2;go_round
  case rel=>exact⟨i+1,q/16,o,k.o,oN_,by rw[p.o]⟩
  simp[ByteArray.size_append,j,l.o];have:=(nH_bd m).2;omega
 have C:decide ((0:Int)<(q:Int))=false:=oU_;have e:=nH_stop hm hn O (by rw[<-hq];omega);have z:=U (strOfNums (hexI (m:Int))=sx) (by rw[A.o,<-e,a]);clear b a hq;go_wp2;go_ret;rw[z.o];exact⟨rfl,rfl⟩
theorem LZ{l:Li}{i:Nat}(hi:i<l.length):codI (l.take (i+1))=(if i=0 then []else codI (l.take i)++[32])++hexI l[i]:=by
 have e:l.take (i+1)=l.take i++[l[i]]:=by rw[List.take_add_one,List.getElem?_eq_getElem hi];rfl
 rw[e];cases hl:l.take i with
 |nil=>
  have:i=0:=by
   have h:=congrArg List.length hl;rw[List.length_take,List.length_nil]at h;omega
  rw[if_pos this];rfl
 |cons c r=>
  have:i≠0:=λe0=>by rw[e0]at hl;cases hl
  rw[if_neg this,codI_eq,List.cons_append,codI_eq,List.flatMap_append];simp
theorem tlCodes_any(A:Oa)(n k:Nat)(l:Li)(w:Wv)(hA:aA w A l)(hn:l.length=n)(hv:∀z∈l,0<=z/\z<=1114111)(hb:n<=65536):Calls prog 78 #[H A n k] w (λe w'=>e=.returned (.tuple #[.string (strOfNums (codI l)),I J 0])/\w=w'):=by
 subst hn;have s:=G hv;have r:=G hA;have h:=G (λi(hi:i<l.length)=>LZ hi)
 have g:=G (λi=>show(codI (l.take i)).length<=458752 from by
  have:=codI_len (l.take i)
  rw[List.length_take]at this
  omega)
 clear hA hv;go_enter func78,ntmps78;go_wp2;go_loop [4,5] (λu v=>∃i:Nat,i<=l.length/\v=I J i/\u=.string (strOfNums (codI (l.take i)))) (λ_ v=>l.length-(intOf v).toNat)
 case atStart=>exact⟨0,Nat.zero_le _,rfl,rfl⟩
 obtain⟨i,hi,rfl,rfl⟩:=hrel;by_cases hlt:i<l.length
 ·obtain⟨b,o,rfl,hc⟩:=r.o.at hlt
  have C:=hc i hlt;have hz:=s.o _ (List.getElem_mem hlt);have j:=G (λW=>fM l[i] W);rw[f_ hz.1 hz.2]at j;have q:=G (λW=>VZ l[i] W hz);have y:(i:Int)<(l.length:Int):=O;have hs:=g.o i;have d:=G (h.o i hlt);have hh:=(hexI_len l[i]).2;clear hc hz;generalize l[i]=z at *;obtain⟨sx,a⟩:=exQ (strOfNums (codI (l.take i)));have B:sx.size<=458752:=by rw[<-a,strOfNums_size];exact hs
  have c:=G a;have x:(strOfNums (hexI z)).size<=6:=by rw[strOfNums_size];exact hh
  rw[a];clear a hs hh;by_cases h0:i=0
  ·have t:decide (0<i)=false:=decide_eq_false O
   have p:¬0<i:=O
   have f:=U (strOfNums (codI (l.take (i+1)))=sx++strOfNums (hexI z)) (by
    rw[d.o,if_pos h0,qG,<-c.o,h0];rfl)
   clear h0 d;go_wp2_with fail;refine(j.o _).mono ?_
   rintro e m ⟨rfl,rfl⟩;go_wp2_with fail;refine(q.o _).mono ?_
   rintro e m ⟨rfl,rfl⟩;go_wp2;go_round
   case rel=>exact⟨i+1,O,oN_,by rw[f.o]⟩
   (try simp[intOf])<;>(try omega)
  have t:decide (0<i)=true:=decide_eq_true O;have p:0<i:=O
  have f:=U (strOfNums (codI (l.take (i+1)))=sx++⟨#[32]⟩++strOfNums (hexI z)) (by
   rw[d.o,if_neg h0,qG,qG,<-c.o];rfl)
  clear h0 d;go_wp2_with fail;refine(j.o _).mono ?_
  rintro e m ⟨rfl,rfl⟩;go_wp2_with fail;refine(q.o _).mono ?_
  rintro e m ⟨rfl,rfl⟩;go_wp2;go_round
  case rel=>exact⟨i+1,O,oN_,by rw[f.o]⟩
  (try simp[intOf])<;>(try omega)
 obtain rfl:i=l.length:=O;rw[List.take_length];go_wp2_with fail;go_ret2;exact⟨rfl,rfl⟩
theorem zAo(A:Oa)(na ca:Nat)(B:Oa)(nb cb:Nat)(t:Tlr)(w:Wv):Calls prog 43 #[.agg #[H A na ca,H B nb cb,I J t.lvl,.bool t.bef]] w (c_ (kndT t) w):=by
 have d:=Box.new w 35 [H A na ca,H B nb cb,I J t.lvl,.bool t.bef] rfl;have b:=(Below.refl w.heap.size w).alloc (Nat.le_refl _) (.cells #[H A na ca,H B nb cb,I J t.lvl,.bool t.bef] 35);have h:=U (∃V,w.alloc (.cells #[H A na ca,H B nb cb,I J t.lvl,.bool t.bef] 35)=V) (⟨_,rfl⟩);have c:=U (kndT t=(decide (0<=t.lvl)&&decide (t.lvl<=3)&&(decide (0<t.lvl)||!t.bef))) rfl;obtain⟨r,hr⟩:=exQ (kndT t);rw[hr]at c|-;clear hr;unfold c_;change Box (w.alloc (.cells #[H A na ca,H B nb cb,I J t.lvl,.bool t.bef] 35)) _ _ _ at d;go_enter func43,ntmps43;go_upto_region 1 with(fail)
 obtain⟨V,i⟩:=h.o;rw[i]at d b|-;clear i h;have j:=d.c 2 rfl;have k:=d.c 3 rfl;clear d;generalize t.lvl=lv at *;generalize t.bef=bf at *;by_cases h0:0<=lv
 ·have e:decide (0<=lv)=true:=decide_eq_true h0
  by_cases h3:lv<=3
  ·have f:decide (lv<=3)=true:=decide_eq_true h3
   by_cases h1:0<lv
   ·have g:decide (0<lv)=true:=decide_eq_true h1
    have a:=U (r=true) (by rw[c.o,e,f,g];rfl);clear h0 h3 h1;go_wp2;go_ret;rw[a.o];exact⟨rfl,b⟩
   have g:decide (0<lv)=false:=decide_eq_false h1;have a:=U (r=!bf) (by rw[c.o,e,f,g];rfl);clear h0 h3 h1;go_wp2;go_ret;rw[a.o];exact⟨rfl,b⟩
  have f:decide (lv<=3)=false:=decide_eq_false h3;have a:=U (r=false) (by rw[c.o,e,f];rfl);clear h0 h3;go_wp2;go_ret;rw[a.o];exact⟨rfl,b⟩
 have e:decide (0<=lv)=false:=decide_eq_false h0;have a:=U (r=false) (by rw[c.o,e];rfl);clear h0;go_wp2;go_ret;rw[a.o];exact⟨rfl,b⟩
theorem BZ(A:Oa)(n k:Nat)(l:Li)(w:Wv)(hA:aA w A l)(hn:l.length=n)(hb:n<=9223372036854775807):Calls prog 44 #[H A n k] w (λe w'=>e=.returned (.bool (rngT l))/\w=w'):=by
 subst hn;have v:=G hA;have s:=G (λk(hk:k<l.length)h=>uK (zs:=l) hk h);have f:=G (λh0 h=>uL (zs:=l) h0 h);have t:=U (l.length=0->rngT l=false) (λh=>by rw[List.length_eq_zero_iff.1 h];rfl);obtain⟨r,hr⟩:=exQ (rngT l);rw[hr]at s f t|-;clear hA hr;go_enter func44,ntmps44;go_wp2;go_loop [3] (λu=>∃i:Nat,i<=l.length/\u=I J i/\Hi (∀j,(hj:j<l.length)->j<i->0<=l[j]/\l[j]<=1114111)) (λu=>l.length-(intOf u).toNat)
 case atStart=>exact⟨0,Nat.zero_le _,rfl,G (λj _ h=>absurd h O)⟩
 obtain⟨i,hi,rfl,a⟩:=hrel;by_cases hlt:i<l.length
 ·obtain⟨b,o,rfl,hc⟩:=v.o.at hlt
  have B:=hc i hlt;have g:=G (λW=>fM l[i] W);have y:(i:Int)<(l.length:Int):=O;have c:=G (λh=>s.o i hlt h)
  have p:=U (0<=l[i]/\l[i]<=1114111->∀j,(hj:j<l.length)->j<i+1->0<=l[j]/\l[j]<=1114111) (λh j hj h1=>by
   by_cases e:j<i
   ·exact a.o j hj e
   ·obtain rfl:j=i:=O
    exact h)
  clear hc a;generalize l[i]=z at *;by_cases hz:0<=z/\z<=1114111
  ·rw[f_ hz.1 hz.2]at g
   have m:=G (p.o hz);clear hz p c;go_wp2_with fail;refine(g.o _).mono ?_
   rintro e x ⟨rfl,rfl⟩;go_wp2;go_round
   case rel=>exact⟨i+1,O,oN_,G m.o⟩
   (try simp[intOf])<;>(try omega)
  have hf:inR 0 1114111 z=false:=by
   by_cases h1:0<=z
   ·exact mD O
   exact mE O
  rw[hf]at g;have d:=G (c.o hz);clear hz p c hf;go_wp2_with fail;refine(g.o _).mono ?_
  rintro e x ⟨rfl,rfl⟩;go_wp2;go_ret;rw[d.o];exact⟨rfl,rfl⟩
 obtain rfl:i=l.length:=O;by_cases h0:l.length=0
 ·have d:=G (t.o h0)
  have q:decide (0<l.length)=false:=decide_eq_false O;clear a h0;go_wp2;go_ret;rw[d.o,<-q];exact⟨rfl,rfl⟩
 have d:=G (f.o O (λj hj=>a.o j hj hj));have q:decide (0<l.length)=true:=decide_eq_true O;clear a h0;go_wp2;go_ret;rw[d.o,<-q];exact⟨rfl,rfl⟩
end
end Go.Proofs.YtkhmjidaeliccaaGreatDoor
