import Derived.Test.YtkhmjidaeliccaaGreatDoorS00
import Derived.WalkLawsBesides
import Derived.Lib.Hide
import Derived.Test.YtkhmjidaeliccaaGreatDoorProg
import Derived.WalkSpells
import Derived.BigQuiet
set_option maxRecDepth 100000
set_option maxHeartbeats 51200000
namespace Go.Proofs.YtkhmjidaeliccaaGreatDoor
open Option renaming none->N,some->Z
open Value renaming int->I,slice->H
open IntKind renaming i64->J
open Go.Proofs.Tryz
section
open Go.RowKit
def Sl(w:Wv)(A:Oa)(cs:Lv):Prop:=
 cs≠[]->∃b o,A=Z ⟨b,o,N⟩/\∀j u,cs[j]?=Z u->w.cell? ⟨b,o+j,N⟩=Z u
theorem Sl.nil(w:Wv)(A:Oa):Sl w A []:=λh=>absurd rfl h
theorem Sl.at{w:Wv}{A:Oa}{cs:Lv}(h:Sl w A cs){k:Nat}(hk:k<cs.length):
  ∃b o,A=Z ⟨b,o,N⟩/\∀j u,cs[j]?=Z u->w.cell? ⟨b,o+j,N⟩=Z u:=
 h (by rintro rfl;simp at hk)
theorem Sl.keep{w w':Wv}{A:Oa}{cs:Lv}(h:Sl w A cs)(hb:∀p:Addr,p.block<w.heap.size->w'.cell? p=w.cell? p):Sl w' A cs:=by
 intro a;obtain⟨b,o,rfl,hc⟩:=h a;refine⟨b,o,rfl,λj u hu=>?_⟩;have c:=hc j u hu;rw[hb _ (World.block_lt_of_cell? w _ c)];exact c
theorem Sl.below{w w':Wv}{A:Oa}{cs:Lv}(h:Sl w A cs)(hb:By w w'):Sl w' A cs:=h.keep λ_ hp=>hb.cell hp
theorem Sl.drewN{w:Wv}{A:Oa}{cs:Lv}(h:Sl w A cs)(n:Nat):Sl (w.drewN n) A cs:=h
theorem Sl.drew{w:Wv}{A:Oa}{cs:Lv}(h:Sl w A cs):Sl w.drew A cs:=h
theorem Sl.alloc{w:Wv}{A:Oa}{cs:Lv}(h:Sl w A cs)(o:Obj):Sl (w.alloc o) A cs:=h.below (ba _ _)
theorem Sl.of_own{w:Wv}{base:Nat}{e:TypeId}{size n c:Nat}{A:Oa}{xs:Lv}(h:w.ownsRow base e size (H A n c) n xs):Sl w A xs:=by
 intro a;rcases h.2 with⟨hv,rfl⟩|⟨g,b,d,hv,_⟩
 ·have:=h.1;simp at this;exact absurd this a
 injection hv with hA;subst hA;refine⟨g,0,rfl,λj u hu=>?_⟩;have:=h.cells (g:=g) rfl j u hu;unfold Addr.add at this;split at this<;>simp_all
def aA(w:Wv)(A:Oa)(zs:Li):Prop:=Sl w A (zs.map (Value.int .i64))
theorem aA.at{w:Wv}{A:Oa}{zs:Li}(h:aA w A zs){k:Nat}(hk:k<zs.length):
  ∃b o,A=Z ⟨b,o,N⟩/\∀j,(hj:j<zs.length)->w.cell? ⟨b,o+j,N⟩=Z (I J zs[j]):=by
 obtain⟨b,o,a,hc⟩:=Sl.at h (k:=k) (by simpa using hk);exact⟨b,o,a,λj hj=>hc j _ (by simp[hj])⟩
theorem Sl.cut{w:Wv}{b o:Nat}{cs:Lv}(h:Sl w (Z ⟨b,o,N⟩) cs)(k:Nat):Sl w (Z ⟨b,o+k,N⟩) (cs.drop k):=by
 intro d;have a:cs≠[]:=by rintro rfl;simp at d
 obtain⟨e,f,c,hc⟩:=h a;injection c with c;injection c with h1 h2;subst h1;subst h2;refine⟨_,_,rfl,λj u hu=>?_⟩;rw[Nat.add_assoc];exact hc _ u (by rw[<-hu,List.getElem?_drop])
theorem aA.cut{w:Wv}{b o:Nat}{zs:Li}(h:aA w (Z ⟨b,o,N⟩) zs)(k:Nat):aA w (Z ⟨b,o+k,N⟩) (zs.drop k):=by
 unfold aA;rw[List.map_drop];exact Sl.cut h k
theorem aA.below{w w':Wv}{A:Oa}{zs:Li}(h:aA w A zs)(hb:By w w'):aA w' A zs:=Sl.below h hb
theorem bI(w:Wv)(cs:Lv)(t:TypeId){B:Nat}(h:B=w.heap.size):Sl (w.alloc (.cells cs.toArray t)) (Z ⟨B,0,N⟩) cs:=by
 subst h;intro _;refine⟨_,_,rfl,λj u hu=>?_⟩;rw[World.cell?_alloc_at _ _ _ _ rfl];simpa using hu
theorem fI(w:Wv)(zs:Li)(t:TypeId){B:Nat}(h:B=w.heap.size):aA (w.alloc (.cells (zs.map (Value.int .i64)).toArray t)) (Z ⟨B,0,N⟩) zs:=bI w _ t h
theorem fW(w:Wv)(n:Nat):By w (w.drewN n):=⟨rfl,rfl,rfl,Nat.le_refl _,λ_ _=>rfl⟩
def Qt(w w':Wv):Prop:=∃q,w'=w.drewN q
theorem Qt.refl(w:Wv):Qt w w:=⟨0,rfl⟩
theorem Qt.drewN{w w':Wv}(h:Qt w w')(n:Nat):Qt w (w'.drewN n):=by obtain⟨q,rfl⟩:=h;exact⟨q+n,World.drewN_drewN _ _ _⟩
theorem Qt.drew{w w':Wv}(h:Qt w w'):Qt w w'.drew:=h.drewN 1
theorem Qt.trans{a b c:Wv}(h:Qt a b)(k:Qt b c):Qt a c:=by obtain⟨q,rfl⟩:=k;exact h.drewN q
theorem Qt.below{w w':Wv}(h:Qt w w'):By w w':=by obtain⟨q,rfl⟩:=h;exact fW w q
theorem aH{k:IntKind}{a b:Int}(h:a=b):Ending.returned (.int k a)=.returned (.int k b):=by rw[h]
theorem cY{a b:Bool}(h:a=b):Ending.returned (.bool a)=.returned (.bool b):=by rw[h]
section
variable {P:Program}(w:Wv)
theorem uO(e:TypeId)(k:IntKind)(hu:P.underlying e=Z (.int k))(xs:Array Value)(j:Nat)(v:Value)(hv:xs[j]?=Z v):(part e xs j).run P w=.ok v w:=by
 simp[part,isAgg,run_underlying hu,hv]
theorem YG(d:Nat)(t e:TypeId)(k:IntKind)(i:TypeInfo)(ht:P.underlying t=Z (.array 3 e))(he:P.underlying e=Z (.int k))(hi:P.info? e=Z i)(hs:i.size=1)(a b c a' b' c':Int):
  (Op.equalIn (d+2) t (.agg #[.int k a,.int k b,.int k c]) (.agg #[.int k a',.int k b',.int k c'])).run P w=.ok (a==a'&&b==b'&&c==c') w:=by
 have f:∀W,(Op.equalIn (d+1) e (.int k a) (.int k a')).run P W=.ok (a==a') W:=λW=>run_equalIn_int W d e k k a a' he
 have g:∀W,(Op.equalIn (d+1) e (.int k b) (.int k b')).run P W=.ok (b==b') W:=λW=>run_equalIn_int W d e k k b b' he
 have h:∀W,(Op.equalIn (d+1) e (.int k c) (.int k c')).run P W=.ok (c==c') W:=λW=>run_equalIn_int W d e k k c c' he
 have j:=λ(xs:Array Value) (v:Value)=>uO (P:=P) w e k he xs 0 v
 have l:=λ(xs:Array Value) (v:Value)=>uO (P:=P) w e k he xs 1 v
 have m:=λ(xs:Array Value) (v:Value)=>uO (P:=P) w e k he xs 2 v
 rw[Op.equalIn];simp only[Sem.run_bind,run_underlying ht,Result.andThen_ok,sizeOf,typeInfo,Sem.run_pure];simp[Std.Legacy.Range.forIn_eq_forIn_range',List.range',f,g,h,j,l,m,hi,hs];by_cases h1:a=a'<;>by_cases h2:b=b'<;>by_cases h3:c=c'<;>simp[h1,h2,h3]
end
def aE:Li->Li->Int
 | [],[]=>0
 | [],_::_=>-1
 |_::_,[]=>1
 |a::asq,b::bs=>if a<b then -1 else if b<a then 1 else aE asq bs
theorem mP(xs ys:Li):aE xs ys=0 ↔ xs=ys:=by
 induction xs generalizing ys with
 |nil=>cases ys<;>simp[aE]
 |cons a asq ih=>
  cases ys with
  |nil=>simp[aE]
  |cons b bs=>
   simp only[aE];split
   ·constructor
    ·intro h;omega
    intro h;injection h;omega
   split
   ·constructor
    ·intro h;omega
    intro h;injection h;omega
   rw[ih];constructor
   ·rintro rfl;congr 1;omega
   intro h;injection h
theorem r_(xs ys:Li)(k:Nat)(h1:k<xs.length)(h2:k<ys.length):
  aE (xs.drop k) (ys.drop k)=if xs[k]<ys[k]then -1 else if ys[k]<xs[k]then 1 else aE (xs.drop (k+1)) (ys.drop (k+1)):=by
 rw[List.drop_eq_getElem_cons h1,List.drop_eq_getElem_cons h2,aE]
theorem sD(xs ys:Li)(k:Nat)(h:k=xs.length\/k=ys.length)(h1:k<=xs.length)(h2:k<=ys.length):
  aE (xs.drop k) (ys.drop k)=if xs.length<ys.length then -1 else if ys.length<xs.length then 1 else 0:=by
 by_cases e1:k=xs.length
 ·have:xs.drop k=[]:=by simp[e1]
  rw[this];by_cases a:k=ys.length
  ·have:ys.drop k=[]:=by simp[a]
   rw[this,if_neg O,if_neg O];rfl
  rw[List.drop_eq_getElem_cons (show k<ys.length by omega),if_pos O];rfl
 have a:k=ys.length:=O;have:ys.drop k=[]:=by simp[a]
 rw[this,List.drop_eq_getElem_cons (show k<xs.length by omega),if_neg O,if_pos O];rfl
section
variable {P:Program}{w:Wv}
theorem iC{base:Nat}{e:TypeId}{size n:Nat}{v:Value}{xs:Lv}(h:w.ownsRow base e size v n xs):∃A c,v=H A n c/\n<=c:=by
 rcases h.2 with⟨rfl,rfl⟩|⟨g,a,b,rfl,_,_,hn,_⟩
 ·exact⟨_,_,rfl,Nat.le_refl _⟩
 exact⟨_,_,rfl,hn⟩
theorem UL{base:Nat}{e:TypeId}{size n:Nat}{v:Value}{xs:Lv}{w':Wv}(h:w.ownsRow base e size v n xs)(hg:w.grownBy w' v.ownBlock)(hb:base<=w.heap.size):Below base w w':=
 (Below.refl _ _).grown hg hb λk hk=>(h.lt k hk).1
theorem aG{base:Nat}{e:TypeId}{size n:Nat}{v:Value}{xs:Lv}{w':Wv}(h:w.ownsRow base e size v n xs)(hb:By w w'):w'.ownsRow base e size v n xs:=
 h.kept (row:=N) ⟨hb.os,hb.tape,hb.output,hb.size,λk hk _=>hb.block k hk⟩ (by cases hv:v.ownBlock<;>simp)
theorem jG(cs:Lv)(e:TypeId)(size n base:Nat){B:Nat}(hB:B=w.heap.size)(hl:cs.length=n*size)(hb:base<=w.heap.size)(hm:n<=9223372036854775807):
  (w.alloc (.cells cs.toArray e)).ownsRow base e size (H (Z ⟨B,0,N⟩) n n) n cs:=by
 subst hB;refine⟨hl,.inr ⟨w.heap.size,n,cs.toArray,rfl,hb,heap_alloc_new w _,Nat.le_refl _,by unfold maxLen;omega,by simpa using hl,?_⟩⟩;simp[<-hl]
theorem qB(t ty e:TypeId)(z:Value)(size bytes:Nat)(ht:P.underlying t=Z (.slice e))
  (hinfo:(P.info? e).map (λi=>(i.zero,i.size,i.bytes))=Z (Z z,size,bytes)) (hzs:z.cells.size=size) (hsz:0<size) (hby:0<bytes)
  {base:Nat} {A:Oa} {n c:Nat} {xs:Lv} (hown:w.ownsRow base e size (H A n c) n xs)
  {A':Oa} {m c':Nat} {news:Lv} (hr:Sl w A' news) (hl:news.length=m*size) (h1:∀u∈news,u.oneCell'=true)
  (hlim:(n+m)*bytes<=140737488355328) (hbase:base<=w.heap.size) :
  ∃B k w',(Builtin.append_ #[t,t] ty #[H A n c,H A' m c']).run P w=.ok (H B (n+m) k) w'/\w'.ownsRow base e size (H B (n+m) k) (n+m) (xs++news)/\n+m<=k/\
   Below base w w'/\w.grownBy w' (Value.ownBlock (H A n c))/\(B=A\/B=Z ⟨w.heap.size,0,N⟩):=by
 obtain⟨i,hi,hz,p,d⟩:=info_parts hinfo;have x:n+m<=maxLen:=by
  have:(n+m)*1<=(n+m)*bytes:=Nat.mul_le_mul_left _ hby
  unfold maxLen;omega
 rcases Nat.eq_zero_or_pos m with hm|hm
 ·subst hm
  have hn:news=[]:=List.eq_nil_of_length_eq_zero (by simpa using hl);subst hn;obtain⟨_,_,hv,q⟩:=iC hown;injection hv with _ _ hc;subst hc;refine⟨A,c,w,?_,by simpa using hown,q,Below.refl _ _,⟨rfl,rfl,rfl,Nat.le_refl _,λ_ _ _=>rfl⟩,.inl rfl⟩;rcases hown.2 with⟨hv,_⟩|⟨g,a,s,hv,_,_,_⟩
  ·injection hv with hA hn hc
   subst hA;subst hn;subst hc;cases A'<;>simp[Builtin.append_,run_underlying ht,sizeOf,typeInfo,hi,Builtin.lenOf,Builtin.firstCells,loadCells,loadCellsFrom]
  injection hv with hA hn hc;subst hA;subst hc;cases A'<;>simp[Builtin.append_,run_underlying ht,sizeOf,typeInfo,hi,Builtin.lenOf,Builtin.firstCells,loadCells,loadCellsFrom,q,storeCells]
 have y:news≠[]:=by rintro rfl;rw[List.length_nil]at hl;have:=Nat.mul_pos hm hsz;omega
 obtain⟨b,o,rfl,hc⟩:=hr y;have l:∀j u,news[j]?=Z u->w.cell? ((⟨b,o,N⟩:Addr).add j)=Z u:=by
  intro j u hu;have:=hc j u hu;unfold Addr.add;split
  ·next h=>subst h;simpa using this
  exact this
 obtain⟨L,w',r,v,E,_,f⟩:=run_append_own_at (P:=P) w base t ty e i z size bytes ht hi hz p d hzs hsz _ n xs hown ⟨b,o,N⟩ m c' news hl l h1 x hlim hbase;obtain⟨B,k,rfl,hk⟩:=iC v;refine⟨B,k,w',r,v,hk,UL hown E hbase,E,?_⟩
 obtain⟨g,a,hv,_⟩:=(show ∃g a,(Value.slice B (n+m) k)=H (Z ⟨g,0,N⟩) (n+m) a/\True by
  rcases v.2 with⟨_,K⟩|⟨g,a,s,hv,_⟩
  ·omega
  ·exact⟨g,a,hv,trivial⟩)
 injection hv with hB;subst hB;rcases f with f|f
 ·left
  rcases hown.2 with⟨hv,_⟩|⟨F,C,D,hv,_⟩
  ·injection hv with hA;subst hA;simp[Value.ownBlock]at f
  injection hv with hA;subst hA;simp[Value.ownBlock]at f;rw[f]
 right;simp[Value.ownBlock]at f;rw[f]
theorem a_{ops:Array Oper}{rest:List Oper}{o:Oper}{a:Act}{Q:Exit->Act->Wv->Prop}(s x:Operand)(t e:TypeId)(z:Value)(size bytes:Nat)
  (hgd:o.guard=N) (ho:o.op=.call { callee:=.builtin .append,args:=#[s,x],argTypes:=#[t,t] }) (ht:P.underlying t=Z (.slice e))
  (hinfo:(P.info? e).map (λi=>(i.zero,i.size,i.bytes))=Z (Z z,size,bytes)) (hzs:z.cells.size=size) (hsz:0<size) (hby:0<bytes)
  {base:Nat} {A:Oa} {n c:Nat} {xs:Lv} (hs:a.eval s=H A n c) (hown:w.ownsRow base e size (H A n c) n xs)
  {A':Oa} {m c':Nat} {news:Lv} (hx:a.eval x=H A' m c') (hr:Sl w A' news) (hl:news.length=m*size) (h1:∀u∈news,u.oneCell'=true)
  (hlim:(n+m)*bytes<=140737488355328) (hbase:base<=w.heap.size)
  (h:∀B k w',w'.ownsRow base e size (H B (n+m) k) (n+m) (xs++news)->n+m<=k->Below base w w'->w.grownBy w' (Value.ownBlock (H A n c))->(B=A\/B=Z ⟨w.heap.size,0,N⟩)->
   wpList P ops Q rest (a.put o.dst (H B (n+m) k)) w'):wpList P ops Q (o::rest) a w:=by
 refine wpList_plain hgd λK hK=>?_
 obtain⟨B,k,w',b,d,f,g,j,l⟩:=qB (P:=P) t o.type e z size bytes ht hinfo hzs hsz hby hown (c':=c') hr hl h1 hlim hbase
 unfold Oper.wp execOp
 simp only[ho,resolve,invoke,builtin,Sem.run_bind,Sem.run_pure,Result.andThen_ok,List.map_toArray,List.map_cons,List.map_nil,hs,hx,b]
 exact hK _ _ (h B k w' d f g j l)
end
theorem cJ(zs:Li):∀u∈zs.map (Value.int .i64),u.oneCell'=true:=by
 intro u hu;obtain⟨z,_,rfl⟩:=List.mem_map.1 hu;rfl
def nmc(n:Int):Prop:=(65<=n/\n<=90)\/(97<=n/\n<=122)\/(48<=n/\n<=57)\/n=95
instance (n:Int):Decidable (nmc n):=by unfold nmc;exact inferInstance
def cF(s:ByteArray):Bool:=s.data.toList.all (λb=>decide (nmc (b.toNat:Int)))&&(decide (1<=s.size)&&decide (s.size<=32))
theorem EK(s:ByteArray):s.toList.length=s.size:=by
 rw[ByteArray.toList_eq,Array.length_toList];rfl
theorem iH{s:ByteArray}(h:s.size=0):s.toList=[]:=by rw[<-List.length_eq_zero_iff,EK];exact h
theorem iG{s:ByteArray}(h:¬s.size=0):¬s.toList=[]:=by rw[<-List.length_eq_zero_iff,EK];exact h
theorem bU{n:Nat}{a w:Wv}(h:Below n a w)(k:Nat):Below n a (w.drewN k):=⟨h.os,h.tape,h.output,h.size,h.block⟩
theorem EJ{a b:ByteArray}(h:a.toList=b.toList):a=b:=by
 rw[ByteArray.toList_eq,ByteArray.toList_eq]at h;cases a;cases b
 simp only[ByteArray.mk.injEq];exact Array.toList_inj.1 h
theorem EI{a b:ByteArray}(h:a=b):(a.toList==b.toList)=true:=by rw[h];simp
theorem uS{a b:ByteArray}(h:¬a=b):(a.toList==b.toList)=false:=by
 rw[beq_eq_false_iff_ne];exact λe=>h (EJ e)
theorem tY{s:ByteArray}{k:Nat}(hk:k<s.size)(h:¬nmc (s[k].toNat:Int)):cF s=false:=by
 unfold cF;rw[Bool.and_eq_false_iff];left;rw[List.all_eq_false];exact⟨s[k],by rw[Array.mem_toList_iff];exact Array.getElem_mem _,by simpa using h⟩
theorem tX{s:ByteArray}(h:∀j,(hj:j<s.size)->nmc (s[j].toNat:Int)):cF s=(decide (1<=s.size)&&decide (s.size<=32)):=by
 unfold cF;have:s.data.toList.all (λb=>decide (nmc (b.toNat:Int)))=true:=by
  rw[List.all_eq_true];intro b hb;obtain⟨i,hi,rfl⟩:=List.getElem_of_mem hb;have a:=h i (by simpa using hi);have e:s.data.toList[i]=s[i]'(by simpa using hi):=by simp;rfl
  rw[e];simpa using a
 rw[this,Bool.true_and]
theorem zAA(s:ByteArray)(w:Wv)(hs:s.size<=9223372036854775807):(Calls prog 128 #[.string s] w λe w'=>e=.returned (.bool (cF s))/\w=w')/\Calls prog 153 #[.string s] w λe w'=>e=.returned (.bool (cF s))/\w=w':=by
 constructor
 all_goals
  first
  |(go_enter func128,ntmps128;go_wp2;go_loop [3,4,7] (λ_ _ i=>∃k:Nat,k<=s.size/\i=I J k/\∀j,(hj:j<s.size)->j<k->nmc (s[j].toNat:Int)) (λ_ _ i=>s.size-(intOf i).toNat))
  |(go_enter func153,ntmps153;go_wp2;go_loop [4,3] (λ_ i=>∃k:Nat,k<=s.size/\i=I J k/\∀j,(hj:j<s.size)->j<k->nmc (s[j].toNat:Int)) (λ_ i=>s.size-(intOf i).toNat))
  case atStart=>exact⟨0,Nat.zero_le _,rfl,λj _ h=>O⟩
  obtain⟨k,hk,rfl,c⟩:=hrel;have r:=G c;clear c;by_cases hlt:k<s.size
  ·have y:=G (λh=>tY hlt h)
   have z:=G (λ(h:nmc (s[k].toNat:Int))=>show ∀j,(hj:j<s.size)->j<k+1->nmc (s[j].toNat:Int)from λj hj hj2=>by
    by_cases e:j<k
    ·exact r.o j hj e
    ·obtain rfl:j=k:=O
     exact h)
   have t:=U (nmc (s[k].toNat:Int) ↔ ((65<=(s[k].toNat:Int)/\(s[k].toNat:Int)<=90)\/(97<=(s[k].toNat:Int)/\(s[k].toNat:Int)<=122)\/(48<=(s[k].toNat:Int)/\(s[k].toNat:Int)<=57)\/(s[k].toNat:Int)=95)) Iff.rfl;have x:=s[k].toNat_lt;obtain⟨a,b⟩|⟨a,b⟩|⟨a,b⟩|⟨a,b⟩|⟨a,b⟩|⟨a,b⟩|⟨a,b⟩|⟨a,b⟩|⟨a,b⟩:(0<=(s[k].toNat:Int)/\(s[k].toNat:Int)<=47)\/(48<=(s[k].toNat:Int)/\(s[k].toNat:Int)<=57)\/(58<=(s[k].toNat:Int)/\(s[k].toNat:Int)<=64)\/(65<=(s[k].toNat:Int)/\(s[k].toNat:Int)<=90)\/(91<=(s[k].toNat:Int)/\(s[k].toNat:Int)<=94)\/(95<=(s[k].toNat:Int)/\(s[k].toNat:Int)<=95)\/(96<=(s[k].toNat:Int)/\(s[k].toNat:Int)<=96)\/(97<=(s[k].toNat:Int)/\(s[k].toNat:Int)<=122)\/(123<=(s[k].toNat:Int)/\(s[k].toNat:Int)<=255):=O
   all_goals
    first|have l:decide (65<=(s[k].toNat:Int))=true:=decide_eq_true O|have l:decide (65<=(s[k].toNat:Int))=false:=decide_eq_false O
    first|have m:decide (97<=(s[k].toNat:Int))=true:=decide_eq_true O|have m:decide (97<=(s[k].toNat:Int))=false:=decide_eq_false O
    first|have n:decide (48<=(s[k].toNat:Int))=true:=decide_eq_true O|have n:decide (48<=(s[k].toNat:Int))=false:=decide_eq_false O
    first|have o:decide ((s[k].toNat:Int)<=90)=true:=decide_eq_true O|have o:decide ((s[k].toNat:Int)<=90)=false:=decide_eq_false O
    first|have p:decide ((s[k].toNat:Int)<=122)=true:=decide_eq_true O|have p:decide ((s[k].toNat:Int)<=122)=false:=decide_eq_false O
    first|have q:decide ((s[k].toNat:Int)<=57)=true:=decide_eq_true O|have q:decide ((s[k].toNat:Int)<=57)=false:=decide_eq_false O
    first|have g:((s[k].toNat:Int)==95)=true:=beq_iff_eq.2 O|have g:((s[k].toNat:Int)==95)=false:=beq_eq_false_iff_ne.2 O
    first
    | (have f:=G (z.o (t.o.2 O));go_wp2;go_round;case rel=>exact⟨k+1,O,oN_,f.o⟩
       exact oI_)
    |(have f:=G (y.o (λh=>by have C:=t.o.1 h;omega));go_wp2;go_ret;exact⟨cY f.o.symm,rfl⟩)
  have d:=G (tX (λj hj=>r.o j hj O));by_cases h1:s.size=0
  ·have v:s.toList=[]:=iH h1
   have A:=G h1;have hz:s.size<1:=O;clear h1;go_wp2;go_ret;exact⟨cY (by rw[d.o,A.o];rfl),rfl⟩
  have v:¬s.toList=[]:=iG h1;have B:s.toList.isEmpty=false:=by simpa using v
  by_cases h2:s.size<=32
  ·go_wp2
   go_ret;exact⟨cY (by rw[d.o,decide_eq_true (show 1<=s.size by omega)];first|(rw[decide_eq_true (show s.size<=32 by omega)];simp;done)|(rw[decide_eq_false (show¬s.size<=32 by omega)];simp;done)|(simp;omega)),rfl⟩
  go_wp2;go_ret;exact⟨cY (by rw[d.o,decide_eq_true (show 1<=s.size by omega)];first|(rw[decide_eq_true (show s.size<=32 by omega)];simp;done)|(rw[decide_eq_false (show¬s.size<=32 by omega)];simp;done)|(simp;omega)),rfl⟩
theorem PZ(s:ByteArray)(w:Wv)(hs:s.size<=9223372036854775807):
  Calls prog 128 #[.string s] w λe w'=>e=.returned (.bool (cF s))/\w=w':=(zAA s w hs).1
theorem qT(s:ByteArray)(w:Wv)(hs:s.size<=9223372036854775807):
  Calls prog 153 #[.string s] w λe w'=>e=.returned (.bool (cF s))/\w=w':=(zAA s w hs).2
structure Grp where
 name:ByteArray
 lo:Int
 hi:Int
 deriving DecidableEq
structure Elt where
 p:Int
 s:Int
 t:Int
 v:Bool
 deriving DecidableEq
structure Ent where
 codes:Li
 elems:List Elt
 deriving DecidableEq
structure Col where
 ents:List Ent
 grps:List Grp
 base:Int
 second:Int
 third:Int
def Grp.cells(g:Grp):Lv:=[.string g.name,I J g.lo,I J g.hi]
def Elt.cells(e:Elt):Lv:=[I J e.p,I J e.s,I J e.t,.bool e.v]
section
variable {α:Type}(enc:α->Lv)
def aB(xs:List α):Lv:=xs.flatMap enc
theorem fY(k:Nat)(hk:∀x,(enc x).length=k)(xs:List α):(aB enc xs).length=xs.length*k:=by
 induction xs with
 |nil=>simp[aB]
 |cons x xs ih=>simp only[aB,List.flatMap_cons,List.length_append,List.length_cons,hk]at *;rw[ih,Nat.add_mul,Nat.one_mul,Nat.add_comm]
theorem gR(k:Nat)(hk:∀x,(enc x).length=k)(xs:List α)(i j:Nat)(hi:i<xs.length)(hj:j<k):(aB enc xs)[i*k+j]?=(enc xs[i])[j]?:=by
 induction xs generalizing i with
 |nil=>simp at hi
 |cons x xs ih=>
  cases i with
  |zero=>
   simp only[aB,List.flatMap_cons,Nat.zero_mul,Nat.zero_add,List.getElem_cons_zero];rw[List.getElem?_append_left (by rw[hk];exact hj)]
  |succ i=>
   simp only[aB,List.flatMap_cons,List.getElem_cons_succ];rw[List.getElem?_append_right (by rw[hk,Nat.add_mul];omega),hk,show(i+1)*k+j-k=i*k+j by rw[Nat.add_mul,Nat.one_mul];omega];exact ih i (by simpa using hi)
theorem iA(xs ys:List α):aB enc (xs++ys)=aB enc xs++aB enc ys:=by simp[aB]
end
def dZ{α:Type}(enc:α->Lv)(w:Wv)(A:Oa)(xs:List α):Prop:=Sl w A (aB enc xs)
theorem dZ.below{α:Type}{enc:α->Lv}{w w':Wv}{A:Oa}{xs:List α}(h:dZ enc w A xs)(hb:By w w'):dZ enc w' A xs:=Sl.below h hb
theorem dZ.at{α:Type}{enc:α->Lv}{w:Wv}{A:Oa}{xs:List α}(k:Nat)(hk:∀x,(enc x).length=k)(k0:0<k)(h:dZ enc w A xs){m:Nat}(hm:m<xs.length):
  ∃b o,A=Z ⟨b,o,N⟩/\b<w.heap.size/\∀i,(hi:i<xs.length)->∀j u,(enc xs[i])[j]?=Z u->w.cell? ⟨b,o+(i*k+j),N⟩=Z u:=by
 have a:∀i,(hi:i<xs.length)->∀j u,(enc xs[i])[j]?=Z u->(aB enc xs)[i*k+j]?=Z u:=by
  intro i hi j u hu;have hj:j<k:=by have:=(List.getElem?_eq_some_iff.1 hu).1;rw[hk]at this;exact this
  rw[gR enc k hk xs i j hi hj];exact hu
 have c:m*k<(aB enc xs).length:=by
  rw[fY enc k hk];exact Nat.mul_lt_mul_of_pos_right hm k0
 obtain⟨b,o,rfl,hc⟩:=Sl.at h c;have d:0<(enc xs[m]).length:=by rw[hk];exact k0
 refine⟨b,o,rfl,World.block_lt_of_cell? w _ (hc _ _ (a m hm 0 _ (List.getElem?_eq_getElem d))),λi hi j u hu=>hc _ _ (a i hi j u hu)⟩
def jM(w:Wv)(A:Oa)(gs:List Grp):Prop:=dZ Grp.cells w A gs
theorem jM.below{w w':Wv}{A:Oa}{gs:List Grp}(h:jM w A gs)(hb:By w w'):jM w' A gs:=dZ.below h hb
theorem jM.at{w:Wv}{A:Oa}{gs:List Grp}(h:jM w A gs){m:Nat}(hm:m<gs.length):
  ∃b o,A=Z ⟨b,o,N⟩/\b<w.heap.size/\∀i,(hi:i<gs.length)->w.cell? ⟨b,o+i*3,N⟩=Z (.string gs[i].name)/\w.cell? ⟨b,o+i*3+1,N⟩=Z (I J gs[i].lo)/\w.cell? ⟨b,o+i*3+2,N⟩=Z (I J gs[i].hi):=by
 obtain⟨b,o,rfl,hb,hc⟩:=dZ.at 3 (λ_=>rfl) O h hm;exact⟨b,o,rfl,hb,λi hi=>⟨hc i hi 0 _ rfl,hc i hi 1 _ rfl,hc i hi 2 _ rfl⟩⟩
def cM(w:Wv)(A:Oa)(es:List Elt):Prop:=dZ Elt.cells w A es
theorem cM.below{w w':Wv}{A:Oa}{es:List Elt}(h:cM w A es)(hb:By w w'):cM w' A es:=dZ.below h hb
theorem cM.at{w:Wv}{A:Oa}{es:List Elt}(h:cM w A es){m:Nat}(hm:m<es.length):
  ∃b o,A=Z ⟨b,o,N⟩/\b<w.heap.size/\∀i,(hi:i<es.length)->w.cell? ⟨b,o+i*4,N⟩=Z (I J es[i].p)/\w.cell? ⟨b,o+i*4+1,N⟩=Z (I J es[i].s)/\w.cell? ⟨b,o+i*4+2,N⟩=Z (I J es[i].t)/\w.cell? ⟨b,o+i*4+3,N⟩=Z (.bool es[i].v):=by
 obtain⟨b,o,rfl,hb,hc⟩:=dZ.at 4 (λ_=>rfl) O h hm;exact⟨b,o,rfl,hb,λi hi=>⟨hc i hi 0 _ rfl,hc i hi 1 _ rfl,hc i hi 2 _ rfl,hc i hi 3 _ rfl⟩⟩
structure fH(w:Wv)(v:Value×Value)(x:Ent):Prop where
 ex:∃A c B d,v=(H A x.codes.length c,H B x.elems.length d)/\aA w A x.codes/\cM w B x.elems
theorem fH.below{w w':Wv}{v:Value×Value}{x:Ent}(h:fH w v x)(hb:By w w'):fH w' v x:=by
 obtain⟨A,c,B,d,hv,a,b⟩:=h.ex;exact⟨A,c,B,d,hv,a.below hb,b.below hb⟩
def gH(w:Wv)(A:Oa)(xs:List Ent):Prop:=
 ∃vs:List (Value×Value),vs.length=xs.length/\dZ (λv=>[v.1,v.2]) w A vs/\∀i,(hi:i<xs.length)->(hv:i<vs.length)->fH w vs[i] xs[i]
theorem gH.below{w w':Wv}{A:Oa}{xs:List Ent}(h:gH w A xs)(hb:By w w'):gH w' A xs:=by
 obtain⟨vs,a,b,c⟩:=h;exact⟨vs,a,b.below hb,λi hi hv=>(c i hi hv).below hb⟩
theorem gH.at{w:Wv}{A:Oa}{xs:List Ent}(h:gH w A xs){m:Nat}(hm:m<xs.length):
  ∃b o,A=Z ⟨b,o,N⟩/\b<w.heap.size/\∀i,(hi:i<xs.length)->∃C c E d,w.cell? ⟨b,o+i*2,N⟩=Z (H C xs[i].codes.length c)/\w.cell? ⟨b,o+i*2+1,N⟩=Z (H E xs[i].elems.length d)/\aA w C xs[i].codes/\cM w E xs[i].elems:=by
 obtain⟨vs,j,f,g⟩:=h;obtain⟨b,o,rfl,hb,hc⟩:=dZ.at 2 (λ_=>rfl) O f (m:=m) O;refine⟨b,o,rfl,hb,λi hi=>?_⟩;obtain⟨C,c,E,d,hv,a,e⟩:=(g i hi O).ex;refine⟨C,c,E,d,?_,?_,a,e⟩
 ·have:=hc i O 0 vs[i].1 rfl;rw[hv]at this;exact this
 have:=hc i O 1 vs[i].2 rfl;rw[hv]at this;exact this
def aJ(A:Oa)(n a:Nat)(B:Oa)(m b:Nat)(c:Col):Value:=.agg #[H A n a,H B m b,I J c.base,I J c.second,I J c.third]
structure aO(w:Wv)(A:Oa)(n:Nat)(B:Oa)(m:Nat)(c:Col):Prop where
 ents:gH w A c.ents
 grps:jM w B c.grps
 hn:c.ents.length=n
 hm:c.grps.length=m
 hs:∀g∈c.grps,g.name.size<=9223372036854775807
theorem aO.below{w w':Wv}{A:Oa}{n:Nat}{B:Oa}{m:Nat}{c:Col}(h:aO w A n B m c)(hb:By w w'):aO w' A n B m c:=⟨h.ents.below hb,h.grps.below hb,h.hn,h.hm,h.hs⟩
def inR(lo hi n:Int):Bool:=decide (lo<=n)&&decide (n<=hi)
theorem f_{lo hi n:Int}(h1:lo<=n)(h2:n<=hi):inR lo hi n=true:=by simp[inR,h1,h2]
theorem mE{lo hi n:Int}(h:n<lo):inR lo hi n=false:=by simp[inR];omega
theorem mD{lo hi n:Int}(h:hi<n):inR lo hi n=false:=by simp[inR];omega
theorem iU{lo hi n:Int}:inR lo hi n=true ↔ lo<=n/\n<=hi:=by simp[inR]
theorem lJ{lo hi n:Int}:inR lo hi n=false ↔ n<lo\/hi<n:=by simp[inR];omega
def dP(e:Elt):Int:=
 if e.p<0\/65535<e.p\/e.s<0\/65535<e.s\/e.t<0\/65535<e.t then 1
 else if(e.p≠0/\(e.s=0\/e.t=0))\/(e.s≠0/\e.t=0)\/(e.v=true/\e.p=0)then 11 else 0
def jC:Li->Int
 | []=>0
 |x::r=>if x=0 then jC r else x
def cA(base:Int)(x:Ent):Int:=
 if x.codes.length<1\/8<x.codes.length\/16<x.elems.length then 2
 else if x.codes.any (λc=>decide (c<0\/1114111<c))then 1
 else if jC (x.elems.map dP)≠0 then jC (x.elems.map dP)
 else if x.elems.any (λe=>decide (base<=e.p))then 1 else 0
def eD(base:Int):List Ent->Option Ent->Int
 | [],_=>0
 |x::r,prev=>if cA base x≠0 then cA base x else match prev with
  |none=>eD base r (Z x)
  |some y=>if 0<=aE y.codes x.codes then 4 else eD base r (Z x)
def gap:List Grp->Bool
 |g::h::r=>decide (h.lo≠g.hi+1)||gap (h::r)
 |_=>false
def fA(base:Int)(g:Grp):Prop:=g.lo<1\/g.hi<g.lo\/base<=g.hi
instance (base:Int) (g:Grp):Decidable (fA base g):=by unfold fA;exact inferInstance
def cC(base:Int)(gs:List Grp):Int:=
 if gs.any (λg=>!cF g.name)then 6
 else if¬(gs.map Grp.name).Nodup then 5
 else if gs.any (λg=>decide (fA base g))then 1
 else if gap gs then 4 else 0
def aK(c:Col):Int:=
 if c.base<1\/65502<c.base\/inR 1 65535 c.second=false\/inR 1 65535 c.third=false then 1
 else if cC c.base c.grps≠0 then cC c.base c.grps
 else eD c.base c.ents N
theorem iP{α:Type}{p:α->Bool}{xs:List α}{k:Nat}(hk:k<xs.length)(h:p xs[k]=true):xs.any p=true:=List.any_eq_true.2 ⟨xs[k],List.getElem_mem hk,h⟩
theorem fV{α:Type}{p:α->Bool}{xs:List α}(h:∀t,(ht:t<xs.length)->p xs[t]=false):xs.any p=false:=by
 rw[List.any_eq_false];intro x hx;obtain⟨i,hi,rfl⟩:=List.getElem_of_mem hx;rw[h i hi];simp
theorem OY{gs:List Grp}{k:Nat}(hk:k+1<gs.length)(h:gs[k+1].lo≠gs[k].hi+1):gap gs=true:=by
 induction gs generalizing k with
 |nil=>simp at hk
 |cons a r ih=>
  cases r with
  |nil=>simp at hk
  |cons b r=>
   cases k with
   |zero=>simp only[List.getElem_cons_zero,List.getElem_cons_succ]at h;simp[gap,h]
   |succ k=>
    simp only[gap,Bool.or_eq_true];right;exact ih (k:=k) (by simpa using hk) (by simpa using h)
theorem OX{gs:List Grp}(h:∀t,(ht:t+1<gs.length)->gs[t+1].lo=gs[t].hi+1):gap gs=false:=by
 induction gs with
 |nil=>rfl
 |cons a r ih=>
  cases r with
  |nil=>rfl
  |cons b r=>
   have c:=h 0 L;simp only[List.getElem_cons_zero,List.getElem_cons_succ]at c;simp only[gap,Bool.or_eq_false_iff];refine⟨by simpa using c,ih λt ht=>?_⟩;have:=h (t+1) (by simpa using ht);simpa using this
section
variable {base:Int}{gs:List Grp}
theorem yT{k:Nat}(hk:k<gs.length)(h:cF gs[k].name=false):cC base gs=6:=by
 unfold cC;rw[if_pos (iP hk (by simp[h]))]
theorem pL(h:∀t,(ht:t<gs.length)->cF gs[t].name=true):gs.any (λg=>!cF g.name)=false:=fV λt ht=>by simp[h t ht]
theorem yS(h6:∀t,(ht:t<gs.length)->cF gs[t].name=true)(h:¬(gs.map Grp.name).Nodup):cC base gs=5:=by
 unfold cC;rw[if_neg (by rw[pL h6];simp),if_pos h]
theorem yQ(h6:∀t,(ht:t<gs.length)->cF gs[t].name=true)(h5:(gs.map Grp.name).Nodup){k:Nat}(hk:k<gs.length)(h:fA base gs[k]):cC base gs=1:=by
 unfold cC;rw[if_neg (by rw[pL h6];simp),if_neg (by simpa using h5),if_pos (iP hk (by simpa using h))]
theorem yR(h6:∀t,(ht:t<gs.length)->cF gs[t].name=true)(h5:(gs.map Grp.name).Nodup)(h1:∀t,(ht:t<gs.length)->¬fA base gs[t]){k:Nat}(hk:k+1<gs.length)(h:gs[k+1].lo≠gs[k].hi+1):cC base gs=4:=by
 unfold cC;rw[if_neg (by rw[pL h6];simp),if_neg (by simpa using h5),if_neg (by rw[fV λt ht=>by simpa using h1 t ht];simp),if_pos (OY hk h)]
theorem yP(h6:∀t,(ht:t<gs.length)->cF gs[t].name=true)(h5:(gs.map Grp.name).Nodup)(h1:∀t,(ht:t<gs.length)->¬fA base gs[t])(h:∀t,(ht:t+1<gs.length)->gs[t+1].lo=gs[t].hi+1):cC base gs=0:=by
 unfold cC;rw[if_neg (by rw[pL h6];simp),if_neg (by simpa using h5),if_neg (by rw[fV λt ht=>by simpa using h1 t ht];simp),if_neg (by rw[OX h];simp)]
theorem dI{α:Type}{xs:List α}{P:α->Prop}{i:Nat}(hlt:i<xs.length)(h:∀t,(ht:t<xs.length)->t<i->P xs[t])(hi:P xs[i]):∀t,(ht:t<xs.length)->t<i+1->P xs[t]:=by
 intro t ht g;by_cases e:t<i
 ·exact h t ht e
 obtain rfl:t=i:=O;exact hi
theorem zAs{α:Type}{xs:List α}{P:α->α->Prop}{i:Nat}(hlt:i+1<xs.length)(h:∀t,(ht:t+1<xs.length)->t<i->P xs[t] xs[t+1])(hi:P xs[i] xs[i+1]):∀t,(ht:t+1<xs.length)->t<i+1->P xs[t] xs[t+1]:=by
 intro t ht g;by_cases e:t<i
 ·exact h t ht e
 obtain rfl:t=i:=O;exact hi
def nms(gs:List Grp)(k:Nat):List ByteArray:=(gs.take k).map Grp.name
theorem pT{k:Nat}(hk:k<gs.length):nms gs (k+1)=nms gs k++[gs[k].name]:=by
 unfold nms;rw[List.take_succ_eq_append_getElem hk,List.map_append];rfl
theorem zW:nms gs gs.length=gs.map Grp.name:=by unfold nms;rw[List.take_length]
theorem zX{k:Nat}(hk:k<gs.length)(h:gs[k].name∈nms gs k):¬(gs.map Grp.name).Nodup:=by
 intro hn;have hs:(nms gs (k+1)).Sublist (gs.map Grp.name):=by
  unfold nms;exact(List.take_sublist _ _).map _
 have a:=hn.sublist hs;rw[pT hk,List.nodup_append]at a;exact a.2.2 _ h _ (List.mem_singleton.2 rfl) rfl
theorem zY{k:Nat}(hk:k<gs.length)(hn:(nms gs k).Nodup)(h:gs[k].name ∉ nms gs k):(nms gs (k+1)).Nodup:=by
 rw[pT hk,List.nodup_append];refine⟨hn,L,λa ha b hb e=>?_⟩;rw[List.mem_singleton]at hb;subst hb;subst e;exact h ha
end
def aU(n:Int)(w:Wv)(e:Ending)(w':Wv):Prop:=e=.returned (I J n)/\By w w'
def c_(x:Bool)(w:Wv)(e:Ending)(w':Wv):Prop:=e=.returned (.bool x)/\By w w'
def mN(w:Wv)(e:Ending)(w':Wv):Prop:=e=.returned (.bool true)/\By w w'
theorem P_(n:Int)(w:Wv):Calls prog 67 #[I J n] w λe w'=>e=.returned (.bool (inR 1 65535 n))/\w=w':=by
 by_cases h1:1<=n
 ·by_cases h2:n<=65535
  ·rw[f_ h1 h2]
   go_enter func67,ntmps67;go_wp2;go_ret;exact⟨rfl,rfl⟩
  rw[mD (show 65535<n by omega)];go_enter func67,ntmps67;go_wp2;go_ret;exact⟨rfl,rfl⟩
 rw[mE (show n<1 by omega)];go_enter func67,ntmps67;go_wp2;go_ret;exact⟨rfl,rfl⟩
theorem zAw(n:Int)(w:Wv):Calls prog 104 #[I J n] w λe w'=>e=.returned (.bool (inR 1 65535 n))/\w=w':=by
 by_cases h1:1<=n
 ·by_cases h2:n<=65535
  ·rw[f_ h1 h2]
   go_enter func104,ntmps104;go_wp2;go_ret;exact⟨rfl,rfl⟩
  rw[mD (show 65535<n by omega)];go_enter func104,ntmps104;go_wp2;go_ret;exact⟨rfl,rfl⟩
 rw[mE (show n<1 by omega)];go_enter func104,ntmps104;go_wp2;go_ret;exact⟨rfl,rfl⟩
theorem zAv(n:Int)(w:Wv):Calls prog 186 #[I J n] w λe w'=>e=.returned (.bool (inR 0 65535 n))/\w=w':=by
 by_cases h1:0<=n
 ·by_cases h2:n<=65535
  ·rw[f_ h1 h2]
   go_enter func186,ntmps186;go_wp2;go_ret;exact⟨rfl,rfl⟩
  rw[mD (show 65535<n by omega)];go_enter func186,ntmps186;go_wp2;go_ret;exact⟨rfl,rfl⟩
 rw[mE (show n<0 by omega)];go_enter func186,ntmps186;go_wp2;go_ret;exact⟨rfl,rfl⟩
theorem jS(n:Int)(w:Wv):Calls prog 129 #[I J n] w λe w'=>e=.returned (.bool (inR 0 1114111 n))/\w=w':=by
 by_cases h1:0<=n
 ·by_cases h2:n<=1114111
  ·rw[f_ h1 h2]
   go_enter func129,ntmps129;go_wp2;go_ret;exact⟨rfl,rfl⟩
  rw[mD (show 1114111<n by omega)];go_enter func129,ntmps129;go_wp2;go_ret;exact⟨rfl,rfl⟩
 rw[mE (show n<0 by omega)];go_enter func129,ntmps129;go_wp2;go_ret;exact⟨rfl,rfl⟩
theorem fM(n:Int)(w:Wv):Calls prog 107 #[I J n] w λe w'=>e=.returned (.bool (inR 0 1114111 n))/\w=w':=by
 by_cases h1:0<=n
 ·by_cases h2:n<=1114111
  ·rw[f_ h1 h2]
   go_enter func107,ntmps107;go_wp2;go_ret;exact⟨rfl,rfl⟩
  rw[mD (show 1114111<n by omega)];go_enter func107,ntmps107;go_wp2;go_ret;exact⟨rfl,rfl⟩
 rw[mE (show n<0 by omega)];go_enter func107,ntmps107;go_wp2;go_ret;exact⟨rfl,rfl⟩
theorem z01(p:Int):((p==0)=true/\(p !=0)=false/\Hi (p=0))\/((p==0)=false/\(p !=0)=true/\Hi (p≠0)):=by
 unfold Hi;by_cases h:p=0
 ·left;simp[h]
 right;simp[h]
theorem mX(x y z:Value)(W:Wv):(Instr.index 145 (.agg #[x,y,z]) (I J 0)).run prog W=.ok x W/\(Instr.index 145 (.agg #[x,y,z]) (I J 1)).run prog W=.ok y W/\(Instr.index 145 (.agg #[x,y,z]) (I J 2)).run prog W=.ok z W:=⟨oK_,oK_,oK_⟩
theorem NG(e:Elt)(w:Wv):Calls prog 130 #[.agg #[I J e.p,I J e.s,I J e.t,.bool e.v]] w (aU (dP e) w):=by
 obtain⟨p,s,t,v⟩:=e;have f:=G (λ(h:p<0\/65535<p\/s<0\/65535<s\/t<0\/65535<t)=>show dP ⟨p,s,t,v⟩=1 by unfold dP;rw[if_pos h]);have k:=G (λ(h:¬(p<0\/65535<p\/s<0\/65535<s\/t<0\/65535<t))=>show dP ⟨p,s,t,v⟩=if(p≠0/\(s=0\/t=0))\/(s≠0/\t=0)\/(v=true/\p=0)then 11 else 0 by unfold dP;rw[if_neg h]);have E:=λW=>(mX (I J p) (I J s) (I J t) W).1
 have F:=λW=>(mX (I J p) (I J s) (I J t) W).2.1
 have K:=λW=>(mX (I J p) (I J s) (I J t) W).2.2
 have a:=G ((Below.refl w.heap.size w).alloc (Nat.le_refl _) (.cells #[I J p,I J s,I J t,.bool v] 77));generalize dP ⟨p,s,t,v⟩=R at *;dsimp only;go_enter func130,ntmps130;go_wp2;go_loop [4,12] (λ_ u=>∃j:Int,0<=j/\j<=3/\u=I J j/\(0<j->0<=p/\p<=65535)/\(1<j->0<=s/\s<=65535)/\(2<j->0<=t/\t<=65535)) (λ_ u=>3-(intOf u).toNat)
 case atStart=>exact⟨0,O,O,rfl,O,O,O⟩
 obtain⟨j,r,x,rfl,b,c,d⟩:=hrel;obtain rfl|rfl|rfl|rfl:j=0\/j=1\/j=2\/j=3:=O
 ·clear b c d
  go_wp2
  all_goals first
   |(go_ret;exact⟨aH (f.o O).symm,a.o⟩)
   | (go_round
      case rel=>exact⟨1,O,O,rfl,O,O,O⟩
      case measure=>simp[intOf])
 ·have g:=b O
  clear b c d;go_wp2
  all_goals first
   |(go_ret;exact⟨aH (f.o O).symm,a.o⟩)
   | (go_round
      case rel=>exact⟨2,O,O,rfl,O,O,O⟩
      case measure=>simp[intOf])
 ·have g:=b O
  have i:=c O;clear b c d;go_wp2
  all_goals first
   |(go_ret;exact⟨aH (f.o O).symm,a.o⟩)
   | (go_round
      case rel=>exact⟨3,O,O,rfl,O,O,O⟩
      case measure=>simp[intOf])
 have g:=b O;have i:=c O;have o:=d O;have q:=G (k.o O);clear b c d f k g i o E F K;rcases z01 p with⟨y,z,l⟩|⟨y,z,l⟩<;>rcases z01 s with⟨A,B,m⟩|⟨A,B,m⟩<;>rcases z01 t with⟨C,D,n⟩|⟨C,D,n⟩<;>cases v
 all_goals
  go_wp2;go_ret;refine⟨aH ?_,a.o⟩;rw[q.o];simp[l.o,m.o,n.o]
theorem VW(e:Elt)(w:Wv):Calls prog 154 #[.agg #[I J e.p,I J e.s,I J e.t,.bool e.v]] w (aU (dP e) w):=by
 obtain⟨p,s,t,v⟩:=e;have f:=G (λ(h:p<0\/65535<p\/s<0\/65535<s\/t<0\/65535<t)=>show dP ⟨p,s,t,v⟩=1 by unfold dP;rw[if_pos h]);have k:=G (λ(h:¬(p<0\/65535<p\/s<0\/65535<s\/t<0\/65535<t))=>show dP ⟨p,s,t,v⟩=if(p≠0/\(s=0\/t=0))\/(s≠0/\t=0)\/(v=true/\p=0)then 11 else 0 by unfold dP;rw[if_neg h]);have a:=G ((Below.refl w.heap.size w).alloc (Nat.le_refl _) (.cells #[I J p,I J s,I J t,.bool v] 77));generalize dP ⟨p,s,t,v⟩=R at *;dsimp only;have b:=G zAv;cases hp:inR 0 65535 p
 ·have d:=G (lJ.1 hp)
  go_enter func154,ntmps154;go_wp2_with fail;refine(b.o p _).mono ?_;rw[hp];rintro e c ⟨rfl,rfl⟩;go_wp2;go_ret;exact⟨aH (f.o (by have:=d.o;omega)).symm,a.o⟩
 cases hs:inR 0 65535 s
 ·have d:=G (lJ.1 hs)
  go_enter func154,ntmps154;go_wp2_with fail;refine(b.o p _).mono ?_;rw[hp];rintro e c ⟨rfl,rfl⟩;go_wp2_with fail;refine(b.o s _).mono ?_;rw[hs];rintro e c ⟨rfl,rfl⟩;go_wp2;go_ret;exact⟨aH (f.o (by have:=d.o;omega)).symm,a.o⟩
 cases ht:inR 0 65535 t
 ·have d:=G (lJ.1 ht)
  go_enter func154,ntmps154;go_wp2_with fail;refine(b.o p _).mono ?_;rw[hp];rintro e c ⟨rfl,rfl⟩;go_wp2_with fail;refine(b.o s _).mono ?_;rw[hs];rintro e c ⟨rfl,rfl⟩;go_wp2_with fail;refine(b.o t _).mono ?_;rw[ht];rintro e c ⟨rfl,rfl⟩;go_wp2;go_ret;exact⟨aH (f.o (by have:=d.o;omega)).symm,a.o⟩
 have l:=G (k.o (by have:=iU.1 hp;have:=iU.1 hs;have:=iU.1 ht;omega));rcases z01 p with⟨m,n,g⟩|⟨m,n,g⟩<;>rcases z01 s with⟨o,q,i⟩|⟨o,q,i⟩<;>rcases z01 t with⟨r,x,j⟩|⟨r,x,j⟩<;>cases v
 all_goals
  go_enter func154,ntmps154;go_wp2_with fail;refine(b.o p _).mono ?_;rw[hp];rintro e c ⟨rfl,rfl⟩;go_wp2_with fail;refine(b.o s _).mono ?_;rw[hs];rintro e c ⟨rfl,rfl⟩;go_wp2_with fail;refine(b.o t _).mono ?_;rw[ht];rintro e c ⟨rfl,rfl⟩;go_wp2;go_ret;refine⟨aH ?_,a.o⟩;rw[l.o];simp[g.o,i.o,j.o]
structure Mp where
 frm:Int
 toq:Li
 tag:ByteArray
 deriving DecidableEq
structure Rg where
 lo:Int
 hi:Int
 deriving DecidableEq
def Rg.cells(r:Rg):Lv:=[I J r.lo,I J r.hi]
def Rgs(w:Wv)(A:Oa)(rs:List Rg):Prop:=dZ Rg.cells w A rs
theorem Rgs.below{w w':Wv}{A:Oa}{rs:List Rg}(h:Rgs w A rs)(hb:By w w'):Rgs w' A rs:=dZ.below h hb
theorem Rgs.at{w:Wv}{A:Oa}{rs:List Rg}(h:Rgs w A rs){m:Nat}(hm:m<rs.length):
  ∃b o,A=Z ⟨b,o,N⟩/\b<w.heap.size/\∀i,(hi:i<rs.length)->w.cell? ⟨b,o+i*2,N⟩=Z (I J rs[i].lo)/\w.cell? ⟨b,o+i*2+1,N⟩=Z (I J rs[i].hi):=by
 obtain⟨b,o,rfl,hb,hc⟩:=dZ.at 2 (λ_=>rfl) O h hm;exact⟨b,o,rfl,hb,λi hi=>⟨hc i hi 0 _ rfl,hc i hi 1 _ rfl⟩⟩
def mpC(p:Mp×Value):Lv:=[I J p.1.frm,p.2,.string p.1.tag]
def Mps(w:Wv)(A:Oa)(ms:List Mp):Prop:=
 ∃vs:Lv,vs.length=ms.length/\dZ mpC w A (ms.zip vs)/\∀i,(hi:i<ms.length)->(hv:i<vs.length)->∃C c,vs[i]=H C ms[i].toq.length c/\ms[i].toq.length<=c/\aA w C ms[i].toq
theorem Mps.below{w w':Wv}{A:Oa}{ms:List Mp}(h:Mps w A ms)(hb:By w w'):Mps w' A ms:=by
 obtain⟨vs,e,f,g⟩:=h;refine⟨vs,e,f.below hb,λi hi hv=>?_⟩;obtain⟨C,c,a,b,d⟩:=g i hi hv;exact⟨C,c,a,b,d.below hb⟩
theorem Mps.nil(w:Wv)(A:Oa):Mps w A []:=⟨[],rfl,Sl.nil _ _,λ_ hi=>absurd hi (Nat.not_lt_zero _)⟩
theorem Mps.at{w:Wv}{A:Oa}{ms:List Mp}(h:Mps w A ms){m:Nat}(hm:m<ms.length):
  ∃b o,A=Z ⟨b,o,N⟩/\b<w.heap.size/\∀i,(hi:i<ms.length)->∃C c,w.cell? ⟨b,o+i*3,N⟩=Z (I J ms[i].frm)/\w.cell? ⟨b,o+i*3+1,N⟩=Z (H C ms[i].toq.length c)/\w.cell? ⟨b,o+i*3+2,N⟩=Z (.string ms[i].tag)/\ms[i].toq.length<=c/\aA w C ms[i].toq:=by
 obtain⟨vs,j,f,g⟩:=h;obtain⟨b,o,rfl,hb,hc⟩:=dZ.at 3 (λ_=>rfl) O f (m:=m) (by rw[List.length_zip];omega);refine⟨b,o,rfl,hb,λi hi=>?_⟩;obtain⟨C,c,a,d,e⟩:=g i hi O;have hz:i<(ms.zip vs).length:=by rw[List.length_zip];omega
 have hg:(ms.zip vs)[i]=(ms[i],vs[i]' O):=List.getElem_zip;refine⟨C,c,?_,?_,?_,d,e⟩
 ·have:=hc i hz 0 (I J ms[i].frm) (by rw[hg];rfl);exact this
 ·have:=hc i hz 1 (H C ms[i].toq.length c) (by rw[hg,a];rfl);exact this
 have:=hc i hz 2 (.string ms[i].tag) (by rw[hg];rfl);exact this
structure lW(ms:List Mp):Prop where
 n:ms.length<=1048576
 e:∀i,(hi:i<ms.length)->ms[i].toq.length<=1048576/\ms[i].tag.size<=9223372036854775807
def bl(a b:ByteArray):Bool:=Op.bytesLess a.toList b.toList
def lD(a b:ByteArray):Int:=if bl a b=true then -1 else if bl b a=true then 1 else 0
def dU(a b:Mp):Int:=if a.frm<b.frm then -1 else if b.frm<a.frm then 1 else lD a.tag b.tag
def kL(a b:Mp):Bool:=decide (a.frm<b.frm)||(a.frm==b.frm&&bl a.tag b.tag)
def aY(m:Mp):Int×ByteArray:=(m.frm,m.tag)
def dF(m:Mp):Bool:=!inR 0 1114111 m.frm||m.toq.any (λz=>!inR 0 1114111 z)
def eY(m:Mp):Bool:=decide (¬m.tag.size=0)&&!cF m.tag
def dQ:List Mp->Bool
 |a::b::r=>decide (dU a b<0)&&dQ (b::r)
 |_=>true
def cX(ms:List Mp):Int:=if ms.any dF then 1 else if ms.any (λm=>decide (64<m.toq.length))then 2 else if ms.any eY then 6 else 0
def cH(ms:List Mp):Int:=if cX ms≠0 then cX ms else if dQ ms then 0 else if(ms.map aY).Nodup then 4 else 5
theorem wC:∀a:List UInt8,Op.bytesLess a a=false
 | []=>rfl
 |x::r=>by simp[Op.bytesLess,wC r]
theorem wE:∀{a b c:List UInt8},Op.bytesLess a b=true->Op.bytesLess b c=true->Op.bytesLess a c=true
 | [],[],_,h,_=>by simp[Op.bytesLess]at h
 | [],_::_,[],_,h=>by simp[Op.bytesLess]at h
 | [],_::_,_::_,_,_=>by simp[Op.bytesLess]
 |_::_,[],_,h,_=>by simp[Op.bytesLess]at h
 |_::_,_::_,[],_,h=>by simp[Op.bytesLess]at h
 |x::a,y::b,z::c,e,d=>by
  simp only[Op.bytesLess,Bool.or_eq_true,Bool.and_eq_true,decide_eq_true_eq,beq_iff_eq]at *;rcases e with e|⟨rfl,e⟩
  ·rcases d with d|⟨rfl,d⟩
   ·exact .inl (UInt8.lt_trans e d)
   exact .inl e
  rcases d with d|⟨rfl,d⟩
  ·exact .inl d
  exact .inr ⟨rfl,wE e d⟩
theorem wD:∀{a b:List UInt8},Op.bytesLess a b=false->Op.bytesLess b a=false->a=b
 | [],[],_,_=>rfl
 | [],_::_,h,_=>by simp[Op.bytesLess]at h
 |_::_,[],_,h=>by simp[Op.bytesLess]at h
 |x::a,y::b,h1,h2=>by
  simp only[Op.bytesLess,Bool.or_eq_false_iff,Bool.and_eq_false_iff,decide_eq_false_iff_not,beq_eq_false_iff_ne]at *;have e:x=y:=UInt8.le_antisymm (UInt8.not_lt.1 h2.1) (UInt8.not_lt.1 h1.1);subst e;have c:Op.bytesLess a b=false:=by rcases h1.2 with h|h;exact absurd rfl h;exact h
  have d:Op.bytesLess b a=false:=by rcases h2.2 with h|h;exact absurd rfl h;exact h
  rw[wD c d]
theorem JN{a b c:ByteArray}(h:bl a b=true)(h':bl b c=true):bl a c=true:=wE h h'
theorem wA(a:ByteArray):bl a a=false:=wC _
theorem JM{a b:ByteArray}(h:bl a b=false)(h':bl b a=false):a=b:=EJ (wD h h')
theorem oY(a b:Mp):kL a b=decide (dU a b<0):=by
 rw[Bool.eq_iff_iff];simp only[kL,dU,lD,Bool.or_eq_true,Bool.and_eq_true,decide_eq_true_eq,beq_iff_eq];by_cases h1:a.frm<b.frm
 ·simp[h1]
 by_cases h2:b.frm<a.frm
 ·simp[h1,h2];omega
 have e:a.frm=b.frm:=O;by_cases hl:bl a.tag b.tag=true
 ·simp[e,hl]
 by_cases hr:bl b.tag a.tag=true
 ·simp[e,hl,hr]
 simp[e,hl,hr]
theorem LW{a b c:Mp}(h1:dU a b<0)(h2:dU b c<0):dU a c<0:=by
 have e:kL a b=true:=by rw[oY];simpa using h1
 have d:kL b c=true:=by rw[oY];simpa using h2
 have f:kL a c=true:=by
  simp only[kL,Bool.or_eq_true,Bool.and_eq_true,decide_eq_true_eq,beq_iff_eq]at *;rcases e with e|⟨e,h⟩
  ·rcases d with d|⟨d,g⟩
   ·left;omega
   left;omega
  rcases d with d|⟨d,g⟩
  ·left;omega
  right;exact⟨O,JN h g⟩
 rw[oY]at f;simpa using f
theorem LV{a b:Mp}(h:dU a b<0):aY a≠aY b:=λe=>by
 injection e with e1 e2;unfold dU lD at h;rw[e1,e2]at h;simp[wA]at h
theorem rP:∀{ms:List Mp},dQ ms=true->ms.Pairwise (λa b=>dU a b<0)
 | [],_=>List.Pairwise.nil
 | [_],_=>List.pairwise_singleton _ _
 |a::b::r,h=>by
  simp only[dQ,Bool.and_eq_true,decide_eq_true_eq]at h;have ih:=rP h.2;refine List.pairwise_cons.2 ⟨λx hx=>?_,ih⟩;rcases List.mem_cons.1 hx with rfl|hx
  ·exact h.1
  exact LW h.1 ((List.pairwise_cons.1 ih).1 x hx)
theorem JD{ms:List Mp}(h:dQ ms=true):(ms.map aY).Nodup:=by
 unfold List.Nodup;rw[List.pairwise_map];exact(rP h).imp LV
def pY(ms:List Mp):Int:=if cX ms≠0 then cX ms else if(ms.map aY).Nodup then(if dQ ms then 0 else 4)else 5
theorem BY(ms:List Mp):pY ms=cH ms:=by
 unfold pY cH;by_cases h1:cX ms=0
 ·simp only[h1,ne_eq,not_true_eq_false,if_false]
  cases h2:dQ ms with
  |true=>rw[if_pos (JD h2)];rfl
  |false=>by_cases h3:(ms.map aY).Nodup<;>simp[h3]
 simp[h1]
theorem JG{ms:List Mp}(h:∀t,(ht:t+1<ms.length)->dU ms[t] ms[t+1]<0):dQ ms=true:=by
 induction ms with
 |nil=>rfl
 |cons a r ih=>
  cases r with
  |nil=>rfl
  |cons b r=>
   have c:=h 0 L;simp only[List.getElem_cons_zero,List.getElem_cons_succ]at c;simp only[dQ,Bool.and_eq_true,decide_eq_true_eq];refine⟨c,ih λt ht=>?_⟩;have:=h (t+1) (by simpa using ht);simpa using this
theorem JA{ms:List Mp}{k:Nat}(hk:k+1<ms.length)(h:¬dU ms[k] ms[k+1]<0):dQ ms=false:=by
 cases e:dQ ms with
 |false=>rfl
 |true=>
  have:=List.pairwise_iff_getElem.1 (rP e) k (k+1) O hk O;exact absurd this h
def bO(rs:List Rg)(c:Int):Bool:=inR 0 1114111 c&&rs.any (λr=>inR r.lo r.hi c)
structure Spn where
 lo:Int
 hi:Int
 val:Int
def gQ(ss:List Spn):Lv:=ss.flatMap λs=>[I J s.lo,I J s.hi,I J s.val]
theorem OH(ss:List Spn):(gQ ss).length=ss.length*3:=by
 induction ss with
 |nil=>rfl
 |cons r rs ih=>simp only[gQ,List.flatMap_cons,List.length_append,List.length_cons,List.length_nil]at *;omega
theorem pH(ss:List Spn)(k:Nat)(hk:k<ss.length):
  (gQ ss)[k*3]?=Z (I J ss[k].lo)/\(gQ ss)[k*3+1]?=Z (I J ss[k].hi)/\(gQ ss)[k*3+2]?=Z (I J ss[k].val):=by
 induction ss generalizing k with
 |nil=>simp at hk
 |cons r rs ih=>
  cases k with
  |zero=>simp[gQ]
  |succ k=>
   have:=ih k (by simpa using hk);simp only[gQ,List.flatMap_cons,List.cons_append,List.nil_append,List.getElem_cons_succ]at *;rw[show(k+1)*3=k*3+1+1+1 by omega];simpa using this
def bG(w:Wv)(A:Oa)(ss:List Spn):Prop:=Sl w A (gQ ss)
theorem bG.at{w:Wv}{A:Oa}{ss:List Spn}(h:bG w A ss){k:Nat}(hk:k<ss.length):
  ∃b o,A=Z ⟨b,o,N⟩/\b<w.heap.size/\∀j,(hj:j<ss.length)->w.cell? ⟨b,o+j*3,N⟩=Z (I J ss[j].lo)/\w.cell? ⟨b,o+j*3+1,N⟩=Z (I J ss[j].hi)/\
   w.cell? ⟨b,o+j*3+2,N⟩=Z (I J ss[j].val):=by
 obtain⟨b,o,rfl,hc⟩:=Sl.at h (k:=k*3) (by rw[OH];omega);refine⟨b,o,rfl,World.block_lt_of_cell? w _ (hc _ _ (pH ss k hk).1),λj hj=>⟨?_,?_,?_⟩⟩
 ·exact hc _ _ (pH ss j hj).1
 ·exact hc _ _ (pH ss j hj).2.1
 exact hc _ _ (pH ss j hj).2.2
theorem bG.below{w w':Wv}{A:Oa}{ss:List Spn}(h:bG w A ss)(hb:By w w'):bG w' A ss:=Sl.below h hb
theorem bG.keep{w w':Wv}{A:Oa}{ss:List Spn}(h:bG w A ss)(hb:∀p:Addr,p.block<w.heap.size->w'.cell? p=w.cell? p):bG w' A ss:=Sl.keep h hb
def cls(ss:List Spn)(c:Int):Int:=
 match ss with
 | []=>0
 |s::r=>if s.lo<=c/\c<=s.hi then s.val else cls r c
def Asc(ss:List Spn):Prop:=∀i j,(hi:i<ss.length)->(hj:j<ss.length)->(ss[i].lo<=ss[i].hi)/\(i<j->ss[i].hi<ss[j].lo)
theorem wU(ss:List Spn)(c:Int)(i:Nat)(hi:i<ss.length)(h:Asc ss)(h1:ss[i].lo<=c)(h2:c<=ss[i].hi):cls ss c=ss[i].val:=by
 induction ss generalizing i with
 |nil=>simp at hi
 |cons s r ih=>
  cases i with
  |zero=>simp only[List.getElem_cons_zero]at *;unfold cls;rw[if_pos ⟨h1,h2⟩]
  |succ i=>
   have d:=(h 0 (i+1) L hi).2 O;simp only[List.getElem_cons_zero,List.getElem_cons_succ]at *;unfold cls;rw[if_neg O];refine ih i (by simpa using hi) (λa b ha hb=>?_) h1 h2;have:=h (a+1) (b+1) (by simpa using ha) (by simpa using hb);simp only[List.getElem_cons_succ]at this;exact⟨this.1,λhab=>this.2 O⟩
theorem rY(ss:List Spn)(c:Int)(h:∀i,(hi:i<ss.length)->¬(ss[i].lo<=c/\c<=ss[i].hi)):cls ss c=0:=by
 induction ss with
 |nil=>rfl
 |cons s r ih=>
  unfold cls;have a:=h 0 L;simp only[List.getElem_cons_zero]at a;rw[if_neg a]
  exact ih λi hi=>by
   have:=h (i+1) (by simpa using hi);simpa using this
theorem Asc.nil:Asc []:=λi _ hi=>by simp at hi
def eH(s:Spn):Prop:=s.lo<0\/1114111<s.hi\/s.hi<s.lo\/s.val<1\/254<s.val
def eT(a b:Spn):Prop:=b.lo<=a.hi\/(b.lo=a.hi+1/\b.val=a.val)
def h_(s:Spn):Prop:=(s.lo<=4370/\4352<=s.hi)\/(s.lo<=4469/\4449<=s.hi)\/(s.lo<=4546/\4520<=s.hi)\/(s.lo<=55203/\44032<=s.hi)
instance (s:Spn):Decidable (eH s):=by unfold eH;exact inferInstance
instance (a b:Spn):Decidable (eT a b):=by unfold eT;exact inferInstance
instance (s:Spn):Decidable (h_ s):=by unfold h_;exact inferInstance
def lY:List Spn->Bool
 |a::b::r=>decide (eT a b)||lY (b::r)
 |_=>false
def chk(ss:List Spn):Int:=if(ss.any λs=>decide (eH s))=true then 1 else if lY ss=true then 4 else if(ss.any λs=>decide (h_ s))=true then 11 else 0
theorem rO{p:Spn->Bool}{ss:List Spn}{k:Nat}(hk:k<ss.length)(h:p ss[k]=true):ss.any p=true:=List.any_eq_true.2 ⟨ss[k],List.getElem_mem hk,h⟩
theorem oX{p:Spn->Bool}{ss:List Spn}(h:∀t,(ht:t<ss.length)->p ss[t]=false):ss.any p=false:=by
 rw[List.any_eq_false];intro x hx;obtain⟨i,hi,rfl⟩:=List.getElem_of_mem hx;rw[h i hi];simp
theorem vM{ss:List Spn}{k:Nat}(hk:k+1<ss.length)(h:eT ss[k] ss[k+1]):lY ss=true:=by
 induction ss generalizing k with
 |nil=>simp at hk
 |cons a r ih=>
  cases r with
  |nil=>simp at hk
  |cons b r=>
   cases k with
   |zero=>simp only[List.getElem_cons_zero,List.getElem_cons_succ]at h;simp[lY,h]
   |succ k=>
    simp only[lY,Bool.or_eq_true];right;exact ih (k:=k) (by simpa using hk) (by simpa using h)
theorem vL{ss:List Spn}(h:∀t,(ht:t+1<ss.length)->¬eT ss[t] ss[t+1]):lY ss=false:=by
 induction ss with
 |nil=>rfl
 |cons a r ih=>
  cases r with
  |nil=>rfl
  |cons b r=>
   have c:=h 0 L;simp only[List.getElem_cons_zero,List.getElem_cons_succ]at c;simp only[lY,Bool.or_eq_false_iff];refine⟨by simpa using c,ih λt ht=>?_⟩;have:=h (t+1) (by simpa using ht);simpa using this
theorem wM{ss:List Spn}{k:Nat}(hk:k<ss.length)(h:eH ss[k]):chk ss=1:=by
 unfold chk;rw[if_pos (rO hk (by simpa using h))]
theorem wO{ss:List Spn}{k:Nat}(h1:∀t,(ht:t<ss.length)->¬eH ss[t])(hk:k+1<ss.length)(h:eT ss[k] ss[k+1]):chk ss=4:=by
 unfold chk;rw[if_neg (by rw[oX λt ht=>by simpa using h1 t ht];simp),if_pos (vM hk h)]
theorem wN{ss:List Spn}{k:Nat}(h1:∀t,(ht:t<ss.length)->¬eH ss[t])(h2:∀t,(ht:t+1<ss.length)->¬eT ss[t] ss[t+1])(hk:k<ss.length)(h:h_ ss[k]):chk ss=11:=by
 unfold chk;rw[if_neg (by rw[oX λt ht=>by simpa using h1 t ht];simp),if_neg (by rw[vL h2];simp),if_pos (rO hk (by simpa using h))]
theorem wL{ss:List Spn}(h1:∀t,(ht:t<ss.length)->¬eH ss[t])(h2:∀t,(ht:t+1<ss.length)->¬eT ss[t] ss[t+1])(h3:∀t,(ht:t<ss.length)->¬h_ ss[t]):chk ss=0:=by
 unfold chk;rw[if_neg (by rw[oX λt ht=>by simpa using h1 t ht];simp),if_neg (by rw[vL h2];simp),if_neg (by rw[oX λt ht=>by simpa using h3 t ht];simp)]
theorem oW{ss:List Spn}{P:Spn->Prop}{i:Nat}(hlt:i<ss.length)(h:∀t,(ht:t<ss.length)->t<i->¬P ss[t])(hi:¬P ss[i]):∀t,(ht:t<ss.length)->t<i+1->¬P ss[t]:=by
 intro t ht g;by_cases e:t<i
 ·exact h t ht e
 obtain rfl:t=i:=O;exact hi
theorem AS{ss:List Spn}{P:Spn->Spn->Prop}{i:Nat}(hlt:i+1<ss.length)(h:∀t,(ht:t+1<ss.length)->t<i->¬P ss[t] ss[t+1])(hi:¬P ss[i] ss[i+1]):∀t,(ht:t+1<ss.length)->t<i+1->¬P ss[t] ss[t+1]:=by
 intro t ht g;by_cases e:t<i
 ·exact h t ht e
 obtain rfl:t=i:=O;exact hi
theorem wP{ss:List Spn}(h:chk ss=0):(∀t,(ht:t<ss.length)->¬eH ss[t])/\(∀t,(ht:t+1<ss.length)->¬eT ss[t] ss[t+1]):=by
 unfold chk at h;split at h
 ·omega
 next h1=>
 split at h
 ·omega
 next h2=>
 refine⟨λt ht hb=>h1 (rO ht (by simpa using hb)),λt ht hb=>h2 (vM ht hb)⟩
theorem v_{ss:List Spn}(h:chk ss=0):Asc ss:=by
 obtain⟨c,f⟩:=wP h;have a:∀d i,(hi:i<ss.length)->(hj:i+d+1<ss.length)->ss[i].hi<ss[i+d+1].lo:=by
  intro d;induction d with
  |zero=>
   intro i hi hj;have:=f i O;unfold eT at this;have:¬ss[i+1].lo<=ss[i].hi:=λh=>this (.inl h)
   simp only[Nat.add_zero];omega
  |succ d ih=>
   intro i hi hj;have k:=ih i hi O;have b:=f (i+d+1) O;have g:=c (i+d+1) O;unfold eT at b;unfold eH at g;have l:¬ss[i+d+1+1].lo<=ss[i+d+1].hi:=λh=>b (.inl h)
   have:i+(d+1)+1=i+d+1+1:=O;simp only[this];omega
 intro i j hi hj;refine⟨?_,λhij=>?_⟩
 ·have:=c i hi
  unfold eH at this;omega
 have:=a (j-i-1) i hi O;have e:i+(j-i-1)+1=j:=O;simp only[e]at this;exact this
end
namespace Hg
def kind(c:Int):Int:=
 if 0x1100<=c/\c<=0x1112 then 1
 else if 0x1161<=c/\c<=0x1175 then 2
 else if 0x11A8<=c/\c<=0x11C2 then 3
 else if 0xAC00<=c/\c<=0xD7A3 then(if(c-0xAC00)%28=0 then 4 else 5)
 else 0
theorem kind1{c:Int}(h:0x1100<=c/\c<=0x1112):kind c=1:=by unfold kind;rw[if_pos h]
theorem kind2{c:Int}(h:0x1161<=c/\c<=0x1175):kind c=2:=by unfold kind;rw[if_neg O,if_pos h]
theorem kind3{c:Int}(h:0x11A8<=c/\c<=0x11C2):kind c=3:=by unfold kind;rw[if_neg O,if_neg O,if_pos h]
theorem kind4{c:Int}(h:0xAC00<=c/\c<=0xD7A3)(h':(c-0xAC00)%28=0):kind c=4:=by unfold kind;rw[if_neg O,if_neg O,if_neg O,if_pos h,if_pos h']
theorem kind5{c:Int}(h:0xAC00<=c/\c<=0xD7A3)(h':¬(c-0xAC00)%28=0):kind c=5:=by unfold kind;rw[if_neg O,if_neg O,if_neg O,if_pos h,if_neg h']
theorem kind0{c:Int}(h1:¬(0x1100<=c/\c<=0x1112))(h2:¬(0x1161<=c/\c<=0x1175))(h3:¬(0x11A8<=c/\c<=0x11C2))(h4:¬(0xAC00<=c/\c<=0xD7A3)):kind c=0:=by
 unfold kind;rw[if_neg h1,if_neg h2,if_neg h3,if_neg h4]
theorem cases6(c:Int):(0x1100<=c/\c<=0x1112/\kind c=1)\/(0x1161<=c/\c<=0x1175/\kind c=2)\/(0x11A8<=c/\c<=0x11C2/\kind c=3)\/(0xAC00<=c/\c<=0xD7A3/\(c-0xAC00)%28=0/\kind c=4)\/
  (0xAC00<=c/\c<=0xD7A3/\¬(c-0xAC00)%28=0/\kind c=5)\/(¬(0x1100<=c/\c<=0x1112)/\¬(0x1161<=c/\c<=0x1175)/\¬(0x11A8<=c/\c<=0x11C2)/\¬(0xAC00<=c/\c<=0xD7A3)/\kind c=0):=by
 by_cases h1:0x1100<=c/\c<=0x1112
 ·exact .inl ⟨h1.1,h1.2,kind1 h1⟩
 by_cases h2:0x1161<=c/\c<=0x1175
 ·exact .inr (.inl ⟨h2.1,h2.2,kind2 h2⟩)
 by_cases h3:0x11A8<=c/\c<=0x11C2
 ·exact .inr (.inr (.inl ⟨h3.1,h3.2,kind3 h3⟩))
 by_cases h4:0xAC00<=c/\c<=0xD7A3
 ·by_cases h5:(c-0xAC00)%28=0
  ·exact .inr (.inr (.inr (.inl ⟨h4.1,h4.2,h5,kind4 h4 h5⟩)))
  exact .inr (.inr (.inr (.inr (.inl ⟨h4.1,h4.2,h5,kind5 h4 h5⟩))))
 exact .inr (.inr (.inr (.inr (.inr ⟨h1,h2,h3,h4,kind0 h1 h2 h3 h4⟩))))
theorem kind_range(c:Int):0<=kind c/\kind c<=5:=by
 rcases cases6 c with h|h|h|h|h|h<;>omega
def decomp(c:Int):Li:=
 if kind c<4 then [c]
 else if(c-0xAC00)%28=0 then [0x1100+(c-0xAC00)/28/21,0x1161+(c-0xAC00)/28%21]
 else [0x1100+(c-0xAC00)/28/21,0x1161+(c-0xAC00)/28%21,0x11A8+(c-0xAC00)%28-1]
def pl(p q r:Int):Nat:=
 if(p==1&&q==2&&r==3)=true then 3 else if(p==1&&q==2)=true then 2 else if(p==4&&q==3)=true then 2 else if 4<=p then 1 else 0
def kd(l:Li)(j:Nat):Int:=(l[j]?.map kind).getD 0
def plen(l:Li):Nat:=pl (kd l 0) (kd l 1) (kd l 2)
def spl(l:Li):Nat->Nat->List (Nat×Nat)
 |0,_=>[]
 |f+1,i=>if i<l.length then(if 0<plen (l.drop i)then(i,i+plen (l.drop i))::spl l f (i+plen (l.drop i))else spl l f (i+1))else []
def sp(l:Li)(i:Nat):List (Nat×Nat):=spl l (l.length-i) i
end Hg
end Go.Proofs.YtkhmjidaeliccaaGreatDoor
