import Derived.Test.YtkhmjidaeliccaaGreatDoorD00
import Derived.WalkKit
import Derived.WalkLawsBesides
import Derived.Lib.Hide
import Derived.Laws.StructEq
import Derived.Maps.AppendAt
import Derived.Test.YtkhmjidaeliccaaGreatDoorProg
import Derived.WalkSpells
import Derived.Deep.Slices
import Derived.ProofKit
import Derived.OpenShut
import Derived.ShutString
import Derived.ChangeOld
import Derived.Deep.QuietTactic
import Derived.BigQuiet
set_option maxRecDepth 100000
set_option maxHeartbeats 51200000
namespace Go.Proofs.YtkhmjidaeliccaaGreatDoor
open Option renaming none->N,some->Z
open Value renaming int->I,slice->H
open IntKind renaming i64->J
open Go.Proofs.Tryz
section
open Go.RowKit
def Sl(w:Wv)(A:Oa)(cs:Lv):Prop:=
 cs≠[]->∃b o,A=Z ⟨b,o,N⟩/\∀j u,cs[j]?=Z u->w.cell? ⟨b,o+j,N⟩=Z u
theorem Sl.nil(w:Wv)(A:Oa):Sl w A []:=fun h=>absurd rfl h
theorem Sl.at{w:Wv}{A:Oa}{cs:Lv}(h:Sl w A cs){k:Nat}(hk:k<cs.length):
  ∃b o,A=Z ⟨b,o,N⟩/\∀j u,cs[j]?=Z u->w.cell? ⟨b,o+j,N⟩=Z u:=
 h (by rintro rfl;simp at hk)
theorem Sl.keep{w w':Wv}{A:Oa}{cs:Lv}(h:Sl w A cs)(hb:∀p:Addr,p.block<w.heap.size->w'.cell? p=w.cell? p):Sl w' A cs:=by
 intro hne;obtain⟨b,o,rfl,hc⟩:=h hne;refine⟨b,o,rfl,fun j u hu=>?_⟩;have h1:=hc j u hu;rw[hb _ (World.block_lt_of_cell? w _ h1)];exact h1
theorem Sl.below{w w':Wv}{A:Oa}{cs:Lv}(h:Sl w A cs)(hb:By w w'):Sl w' A cs:=h.keep fun _ hp=>hb.cell hp
theorem Sl.drewN{w:Wv}{A:Oa}{cs:Lv}(h:Sl w A cs)(n:Nat):Sl (w.drewN n) A cs:=h
theorem Sl.drew{w:Wv}{A:Oa}{cs:Lv}(h:Sl w A cs):Sl w.drew A cs:=h
theorem Sl.alloc{w:Wv}{A:Oa}{cs:Lv}(h:Sl w A cs)(o:Obj):Sl (w.alloc o) A cs:=h.below (ba _ _)
theorem Sl.of_own{w:Wv}{base:Nat}{e:TypeId}{size n c:Nat}{A:Oa}{xs:Lv}(h:w.ownsRow base e size (H A n c) n xs):Sl w A xs:=by
 intro hne;rcases h.2 with⟨hv,rfl⟩|⟨g,cap,cur,hv,_⟩
 ·have:=h.1;simp at this;exact absurd this hne
 injection hv with hA;subst hA;refine⟨g,0,rfl,fun j u hu=>?_⟩;have:=h.cells (g:=g) rfl j u hu;unfold Addr.add at this;split at this<;>simp_all
def aB(w:Wv)(A:Oa)(zs:Li):Prop:=Sl w A (zs.map (Value.int .i64))
theorem aB.at{w:Wv}{A:Oa}{zs:Li}(h:aB w A zs){k:Nat}(hk:k<zs.length):
  ∃b o,A=Z ⟨b,o,N⟩/\∀j,(hj:j<zs.length)->w.cell? ⟨b,o+j,N⟩=Z (I J zs[j]):=by
 obtain⟨b,o,hA,hc⟩:=Sl.at h (k:=k) (by simpa using hk);exact⟨b,o,hA,fun j hj=>hc j _ (by simp[hj])⟩
theorem Sl.cut{w:Wv}{b o:Nat}{cs:Lv}(h:Sl w (Z ⟨b,o,N⟩) cs)(k:Nat):Sl w (Z ⟨b,o+k,N⟩) (cs.drop k):=by
 intro hne;have hne':cs≠[]:=by rintro rfl;simp at hne
 obtain⟨b',o',hA,hc⟩:=h hne';injection hA with hA;injection hA with h1 h2;subst h1;subst h2;refine⟨_,_,rfl,fun j u hu=>?_⟩;rw[Nat.add_assoc];exact hc _ u (by rw[<-hu,List.getElem?_drop])
theorem aB.cut{w:Wv}{b o:Nat}{zs:Li}(h:aB w (Z ⟨b,o,N⟩) zs)(k:Nat):aB w (Z ⟨b,o+k,N⟩) (zs.drop k):=by
 unfold aB;rw[List.map_drop];exact Sl.cut h k
theorem aB.below{w w':Wv}{A:Oa}{zs:Li}(h:aB w A zs)(hb:By w w'):aB w' A zs:=Sl.below h hb
theorem eE(w:Wv)(cs:Lv)(t:TypeId){B:Nat}(h:B=w.heap.size):Sl (w.alloc (.cells cs.toArray t)) (Z ⟨B,0,N⟩) cs:=by
 subst h;intro _;refine⟨_,_,rfl,fun j u hu=>?_⟩;rw[World.cell?_alloc_at _ _ _ _ rfl];simpa using hu
theorem fN(w:Wv)(zs:Li)(t:TypeId){B:Nat}(h:B=w.heap.size):aB (w.alloc (.cells (zs.map (Value.int .i64)).toArray t)) (Z ⟨B,0,N⟩) zs:=eE w _ t h
theorem eF(w:Wv)(n:Nat):By w (w.drewN n):=⟨rfl,rfl,rfl,Nat.le_refl _,fun _ _=>rfl⟩
def Qt(w w':Wv):Prop:=∃q,w'=w.drewN q
theorem Qt.refl(w:Wv):Qt w w:=⟨0,rfl⟩
theorem Qt.drewN{w w':Wv}(h:Qt w w')(n:Nat):Qt w (w'.drewN n):=by obtain⟨q,rfl⟩:=h;exact⟨q+n,World.drewN_drewN _ _ _⟩
theorem Qt.drew{w w':Wv}(h:Qt w w'):Qt w w'.drew:=h.drewN 1
theorem Qt.trans{a b c:Wv}(h:Qt a b)(k:Qt b c):Qt a c:=by obtain⟨q,rfl⟩:=k;exact h.drewN q
theorem Qt.below{w w':Wv}(h:Qt w w'):By w w':=by obtain⟨q,rfl⟩:=h;exact eF w q
theorem aQ{k:IntKind}{a b:Int}(h:a=b):Ending.returned (.int k a)=.returned (.int k b):=by rw[h]
theorem cR{a b:Bool}(h:a=b):Ending.returned (.bool a)=.returned (.bool b):=by rw[h]
section
variable {P:Program}(w:Wv)
theorem lE(e:TypeId)(k:IntKind)(hu:P.underlying e=Z (.int k))(xs:Array Value)(j:Nat)(v:Value)(hv:xs[j]?=Z v):(part e xs j).run P w=.ok v w:=by
 simp[part,isAgg,run_underlying hu,hv]
theorem TK(d:Nat)(t e:TypeId)(k:IntKind)(i:TypeInfo)(ht:P.underlying t=Z (.array 3 e))(he:P.underlying e=Z (.int k))(hi:P.info? e=Z i)(hs:i.size=1)(a b c a' b' c':Int):
  (Op.equalIn (d+2) t (.agg #[.int k a,.int k b,.int k c]) (.agg #[.int k a',.int k b',.int k c'])).run P w=.ok (a==a'&&b==b'&&c==c') w:=by
 have e0:∀W,(Op.equalIn (d+1) e (.int k a) (.int k a')).run P W=.ok (a==a') W:=fun W=>run_equalIn_int W d e k k a a' he
 have e1:∀W,(Op.equalIn (d+1) e (.int k b) (.int k b')).run P W=.ok (b==b') W:=fun W=>run_equalIn_int W d e k k b b' he
 have e2:∀W,(Op.equalIn (d+1) e (.int k c) (.int k c')).run P W=.ok (c==c') W:=fun W=>run_equalIn_int W d e k k c c' he
 have p0:=fun(xs:Array Value) (v:Value)=>lE (P:=P) w e k he xs 0 v
 have p1:=fun(xs:Array Value) (v:Value)=>lE (P:=P) w e k he xs 1 v
 have p2:=fun(xs:Array Value) (v:Value)=>lE (P:=P) w e k he xs 2 v
 rw[Op.equalIn];simp only[Sem.run_bind,run_underlying ht,Result.andThen_ok,sizeOf,typeInfo,Sem.run_pure];simp[Std.Legacy.Range.forIn_eq_forIn_range',List.range',e0,e1,e2,p0,p1,p2,hi,hs];by_cases h1:a=a'<;>by_cases h2:b=b'<;>by_cases h3:c=c'<;>simp[h1,h2,h3]
end
def aA:Li->Li->Int
 | [],[]=>0
 | [],_::_=>-1
 |_::_,[]=>1
 |a::asq,b::bs=>if a<b then -1 else if b<a then 1 else aA asq bs
theorem lP(xs ys:Li):aA xs ys=0 ↔ xs=ys:=by
 induction xs generalizing ys with
 |nil=>cases ys<;>simp[aA]
 |cons a asq ih=>
  cases ys with
  |nil=>simp[aA]
  |cons b bs=>
   simp only[aA];split
   ·constructor
    ·intro h;omega
    intro h;injection h;omega
   split
   ·constructor
    ·intro h;omega
    intro h;injection h;omega
   rw[ih];constructor
   ·rintro rfl;congr 1;omega
   intro h;injection h
theorem qU(xs ys:Li)(k:Nat)(h1:k<xs.length)(h2:k<ys.length):
  aA (xs.drop k) (ys.drop k)=if xs[k]<ys[k]then -1 else if ys[k]<xs[k]then 1 else aA (xs.drop (k+1)) (ys.drop (k+1)):=by
 rw[List.drop_eq_getElem_cons h1,List.drop_eq_getElem_cons h2,aA]
theorem qV(xs ys:Li)(k:Nat)(h:k=xs.length\/k=ys.length)(h1:k<=xs.length)(h2:k<=ys.length):
  aA (xs.drop k) (ys.drop k)=if xs.length<ys.length then -1 else if ys.length<xs.length then 1 else 0:=by
 by_cases e1:k=xs.length
 ·have:xs.drop k=[]:=by simp[e1]
  rw[this];by_cases e2:k=ys.length
  ·have:ys.drop k=[]:=by simp[e2]
   rw[this,if_neg (by omega),if_neg (by omega)];rfl
  rw[List.drop_eq_getElem_cons (show k<ys.length by omega),if_pos (by omega)];rfl
 have e2:k=ys.length:=by omega
 have:ys.drop k=[]:=by simp[e2]
 rw[this,List.drop_eq_getElem_cons (show k<xs.length by omega),if_neg (by omega),if_pos (by omega)];rfl
section
variable {P:Program}{w:Wv}
theorem fX{base:Nat}{e:TypeId}{size n:Nat}{v:Value}{xs:Lv}(h:w.ownsRow base e size v n xs):∃A c,v=H A n c/\n<=c:=by
 rcases h.2 with⟨rfl,rfl⟩|⟨g,cap,cur,rfl,_,_,hn,_⟩
 ·exact⟨_,_,rfl,Nat.le_refl _⟩
 exact⟨_,_,rfl,hn⟩
theorem QL{base:Nat}{e:TypeId}{size n:Nat}{v:Value}{xs:Lv}{w':Wv}(h:w.ownsRow base e size v n xs)(hg:w.grownBy w' v.ownBlock)(hb:base<=w.heap.size):Below base w w':=
 (Below.refl _ _).grown hg hb fun k hk=>(h.lt k hk).1
theorem bI{base:Nat}{e:TypeId}{size n:Nat}{v:Value}{xs:Lv}{w':Wv}(h:w.ownsRow base e size v n xs)(hb:By w w'):w'.ownsRow base e size v n xs:=
 h.kept (row:=N) ⟨hb.os,hb.tape,hb.output,hb.size,fun k hk _=>hb.block k hk⟩ (by cases hv:v.ownBlock<;>simp)
theorem nN(cs:Lv)(e:TypeId)(size n base:Nat){B:Nat}(hB:B=w.heap.size)(hl:cs.length=n*size)(hb:base<=w.heap.size)(hm:n<=9223372036854775807):
  (w.alloc (.cells cs.toArray e)).ownsRow base e size (H (Z ⟨B,0,N⟩) n n) n cs:=by
 subst hB;refine⟨hl,.inr ⟨w.heap.size,n,cs.toArray,rfl,hb,heap_alloc_new w _,Nat.le_refl _,by unfold maxLen;omega,by simpa using hl,?_⟩⟩;simp[<-hl]
theorem TH(t ty e:TypeId)(z:Value)(size bytes:Nat)(ht:P.underlying t=Z (.slice e))
  (hinfo:(P.info? e).map (fun i=>(i.zero,i.size,i.bytes))=Z (Z z,size,bytes)) (hzs:z.cells.size=size) (hsz:0<size) (hby:0<bytes)
  {base:Nat} {A:Oa} {n c:Nat} {xs:Lv} (hown:w.ownsRow base e size (H A n c) n xs)
  {A':Oa} {m c':Nat} {news:Lv} (hr:Sl w A' news) (hl:news.length=m*size) (h1:∀u∈news,u.oneCell'=true)
  (hlim:(n+m)*bytes<=140737488355328) (hbase:base<=w.heap.size) :
  ∃B k w',(Builtin.append_ #[t,t] ty #[H A n c,H A' m c']).run P w=.ok (H B (n+m) k) w'/\w'.ownsRow base e size (H B (n+m) k) (n+m) (xs++news)/\n+m<=k/\
   Below base w w'/\w.grownBy w' (Value.ownBlock (H A n c))/\(B=A\/B=Z ⟨w.heap.size,0,N⟩):=by
 obtain⟨i,hi,hz,hsize,hbytes⟩:=info_parts hinfo;have h63:n+m<=maxLen:=by
  have:(n+m)*1<=(n+m)*bytes:=Nat.mul_le_mul_left _ hby
  unfold maxLen;omega
 rcases Nat.eq_zero_or_pos m with hm|hm
 ·subst hm
  have hn:news=[]:=List.eq_nil_of_length_eq_zero (by simpa using hl);subst hn;obtain⟨_,_,hv,hnc⟩:=fX hown;injection hv with _ _ hc;subst hc;refine⟨A,c,w,?_,by simpa using hown,hnc,Below.refl _ _,⟨rfl,rfl,rfl,Nat.le_refl _,fun _ _ _=>rfl⟩,.inl rfl⟩;rcases hown.2 with⟨hv,_⟩|⟨g,cap,cur,hv,_,_,_⟩
  ·injection hv with hA hn hc
   subst hA;subst hn;subst hc;cases A'<;>simp[Builtin.append_,run_underlying ht,sizeOf,typeInfo,hi,Builtin.lenOf,Builtin.firstCells,loadCells,loadCellsFrom]
  injection hv with hA hn hc;subst hA;subst hc;cases A'<;>simp[Builtin.append_,run_underlying ht,sizeOf,typeInfo,hi,Builtin.lenOf,Builtin.firstCells,loadCells,loadCellsFrom,hnc,storeCells]
 have hne:news≠[]:=by rintro rfl;rw[List.length_nil]at hl;have:=Nat.mul_pos hm hsz;omega
 obtain⟨b,o,rfl,hc⟩:=hr hne;have hnews:∀j u,news[j]?=Z u->w.cell? ((⟨b,o,N⟩:Addr).add j)=Z u:=by
  intro j u hu;have:=hc j u hu;unfold Addr.add;split
  ·next h=>subst h;simpa using this
  exact this
 obtain⟨v',w',hrun,h2,h3,_,h5⟩:=run_append_own_at (P:=P) w base t ty e i z size bytes ht hi hz hsize hbytes hzs hsz _ n xs hown ⟨b,o,N⟩ m c' news hl hnews h1 h63 hlim hbase;obtain⟨B,k,rfl,hk⟩:=fX h2;refine⟨B,k,w',hrun,h2,hk,QL hown h3 hbase,h3,?_⟩
 obtain⟨g,cap,hv,_⟩:=(show ∃g cap,(Value.slice B (n+m) k)=H (Z ⟨g,0,N⟩) (n+m) cap/\True by
  rcases h2.2 with⟨_,h0⟩|⟨g,cap,cur,hv,_⟩
  ·omega
  ·exact⟨g,cap,hv,trivial⟩)
 injection hv with hB;subst hB;rcases h5 with h5|h5
 ·left
  rcases hown.2 with⟨hv,_⟩|⟨g',cap',cur',hv,_⟩
  ·injection hv with hA;subst hA;simp[Value.ownBlock]at h5
  injection hv with hA;subst hA;simp[Value.ownBlock]at h5;rw[h5]
 right;simp[Value.ownBlock]at h5;rw[h5]
theorem cJ{ops:Array Oper}{rest:List Oper}{o:Oper}{a:Act}{Q:Exit->Act->Wv->Prop}(s x:Operand)(t e:TypeId)(z:Value)(size bytes:Nat)
  (hgd:o.guard=N) (ho:o.op=.call { callee:=.builtin .append,args:=#[s,x],argTypes:=#[t,t] }) (ht:P.underlying t=Z (.slice e))
  (hinfo:(P.info? e).map (fun i=>(i.zero,i.size,i.bytes))=Z (Z z,size,bytes)) (hzs:z.cells.size=size) (hsz:0<size) (hby:0<bytes)
  {base:Nat} {A:Oa} {n c:Nat} {xs:Lv} (hs:a.eval s=H A n c) (hown:w.ownsRow base e size (H A n c) n xs)
  {A':Oa} {m c':Nat} {news:Lv} (hx:a.eval x=H A' m c') (hr:Sl w A' news) (hl:news.length=m*size) (h1:∀u∈news,u.oneCell'=true)
  (hlim:(n+m)*bytes<=140737488355328) (hbase:base<=w.heap.size)
  (h:∀B k w',w'.ownsRow base e size (H B (n+m) k) (n+m) (xs++news)->n+m<=k->Below base w w'->w.grownBy w' (Value.ownBlock (H A n c))->(B=A\/B=Z ⟨w.heap.size,0,N⟩)->
   wpList P ops Q rest (a.put o.dst (H B (n+m) k)) w'):wpList P ops Q (o::rest) a w:=by
 refine wpList_plain hgd fun K hK=>?_
 obtain⟨B,k,w',hrun,h2,h3,h4,h5,h6⟩:=TH (P:=P) t o.type e z size bytes ht hinfo hzs hsz hby hown (c':=c') hr hl h1 hlim hbase
 unfold Oper.wp execOp
 simp only[ho,resolve,invoke,builtin,Sem.run_bind,Sem.run_pure,Result.andThen_ok,List.map_toArray,List.map_cons,List.map_nil,hs,hx,hrun]
 exact hK _ _ (h B k w' h2 h3 h4 h5 h6)
end
theorem dJ(zs:Li):∀u∈zs.map (Value.int .i64),u.oneCell'=true:=by
 intro u hu;obtain⟨z,_,rfl⟩:=List.mem_map.1 hu;rfl
def nmc(n:Int):Prop:=(65<=n/\n<=90)\/(97<=n/\n<=122)\/(48<=n/\n<=57)\/n=95
instance (n:Int):Decidable (nmc n):=by unfold nmc;exact inferInstance
def bW(s:ByteArray):Bool:=s.data.toList.all (fun b=>decide (nmc (b.toNat:Int)))&&(decide (1<=s.size)&&decide (s.size<=32))
theorem zE(s:ByteArray):s.toList.length=s.size:=by
 rw[ByteArray.toList_eq,Array.length_toList];rfl
theorem kN{s:ByteArray}(h:s.size=0):s.toList=[]:=by rw[<-List.length_eq_zero_iff,zE];exact h
theorem kM{s:ByteArray}(h:¬s.size=0):¬s.toList=[]:=by rw[<-List.length_eq_zero_iff,zE];exact h
theorem jU{n:Nat}{a w:Wv}(h:Below n a w)(k:Nat):Below n a (w.drewN k):=⟨h.os,h.tape,h.output,h.size,h.block⟩
theorem zD{a b:ByteArray}(h:a.toList=b.toList):a=b:=by
 rw[ByteArray.toList_eq,ByteArray.toList_eq]at h;cases a;cases b
 simp only[ByteArray.mk.injEq];exact Array.toList_inj.1 h
theorem VP{a b:ByteArray}(h:a=b):(a.toList==b.toList)=true:=by rw[h];simp
theorem zC{a b:ByteArray}(h:¬a=b):(a.toList==b.toList)=false:=by
 rw[beq_eq_false_iff_ne];exact fun e=>h (zD e)
theorem sG{s:ByteArray}{k:Nat}(hk:k<s.size)(h:¬nmc (s[k].toNat:Int)):bW s=false:=by
 unfold bW;rw[Bool.and_eq_false_iff];left;rw[List.all_eq_false];exact⟨s[k],by rw[Array.mem_toList_iff];exact Array.getElem_mem _,by simpa using h⟩
theorem sF{s:ByteArray}(h:∀j,(hj:j<s.size)->nmc (s[j].toNat:Int)):bW s=(decide (1<=s.size)&&decide (s.size<=32)):=by
 unfold bW;have:s.data.toList.all (fun b=>decide (nmc (b.toNat:Int)))=true:=by
  rw[List.all_eq_true];intro b hb;obtain⟨i,hi,rfl⟩:=List.getElem_of_mem hb;have h1:=h i (by simpa using hi);have e:s.data.toList[i]=s[i]'(by simpa using hi):=by simp;rfl
  rw[e];simpa using h1
 rw[this,Bool.true_and]
theorem MI(s:ByteArray)(w:Wv)(hs:s.size<=9223372036854775807):
  Calls prog 128 #[.string s] w fun e w'=>e=.returned (.bool (bW s))/\w=w':=by
 go_enter func128,ntmps128;go_wp2;go_loop [3,4,7] (fun _ _ i=>∃k:Nat,k<=s.size/\i=I J k/\∀j,(hj:j<s.size)->j<k->nmc (s[j].toNat:Int)) (fun _ _ i=>s.size-(intOf i).toNat)
 case atStart=>exact⟨0,Nat.zero_le _,rfl,fun j _ h=>by omega⟩
 obtain⟨k,hk,rfl,hall⟩:=hrel;have HA:=G hall;clear hall;by_cases hlt:k<s.size
 ·have HB:=G (fun h=>sG hlt h)
  have HN:=G (fun(h:nmc (s[k].toNat:Int))=>show ∀j,(hj:j<s.size)->j<k+1->nmc (s[j].toNat:Int)from fun j hj hj2=>by
   by_cases e:j<k
   ·exact HA.out j hj e
   ·obtain rfl:j=k:=by omega
    exact h)
  have HD:=U (nmc (s[k].toNat:Int) ↔ ((65<=(s[k].toNat:Int)/\(s[k].toNat:Int)<=90)\/(97<=(s[k].toNat:Int)/\(s[k].toNat:Int)<=122)\/(48<=(s[k].toNat:Int)/\(s[k].toNat:Int)<=57)\/(s[k].toNat:Int)=95)) Iff.rfl;have hlt8:=s[k].toNat_lt;obtain⟨hc1,hc2⟩|⟨hc1,hc2⟩|⟨hc1,hc2⟩|⟨hc1,hc2⟩|⟨hc1,hc2⟩|⟨hc1,hc2⟩|⟨hc1,hc2⟩|⟨hc1,hc2⟩|⟨hc1,hc2⟩:(0<=(s[k].toNat:Int)/\(s[k].toNat:Int)<=47)\/(48<=(s[k].toNat:Int)/\(s[k].toNat:Int)<=57)\/(58<=(s[k].toNat:Int)/\(s[k].toNat:Int)<=64)\/(65<=(s[k].toNat:Int)/\(s[k].toNat:Int)<=90)\/(91<=(s[k].toNat:Int)/\(s[k].toNat:Int)<=94)\/(95<=(s[k].toNat:Int)/\(s[k].toNat:Int)<=95)\/(96<=(s[k].toNat:Int)/\(s[k].toNat:Int)<=96)\/(97<=(s[k].toNat:Int)/\(s[k].toNat:Int)<=122)\/(123<=(s[k].toNat:Int)/\(s[k].toNat:Int)<=255):=by omega
  ·have hd1:decide (65<=(s[k].toNat:Int))=false:=decide_eq_false (by omega)
   have hd2:decide (97<=(s[k].toNat:Int))=false:=decide_eq_false (by omega);have hd3:decide (48<=(s[k].toNat:Int))=false:=decide_eq_false (by omega);have hd4:decide ((s[k].toNat:Int)<=90)=true:=decide_eq_true (by omega);have hd5:decide ((s[k].toNat:Int)<=122)=true:=decide_eq_true (by omega);have hd6:decide ((s[k].toNat:Int)<=57)=true:=decide_eq_true (by omega);have hc3:((s[k].toNat:Int)==95)=false:=beq_eq_false_iff_ne.2 (by omega);have HY:=G (HB.out (fun h=>by have h9:=HD.out.1 h;omega));go_wp2;go_ret;exact⟨cR HY.out.symm,rfl⟩
  ·have hd1:decide (65<=(s[k].toNat:Int))=false:=decide_eq_false (by omega)
   have hd2:decide (97<=(s[k].toNat:Int))=false:=decide_eq_false (by omega);have hd3:decide (48<=(s[k].toNat:Int))=true:=decide_eq_true (by omega);have hd4:decide ((s[k].toNat:Int)<=90)=true:=decide_eq_true (by omega);have hd5:decide ((s[k].toNat:Int)<=122)=true:=decide_eq_true (by omega);have hd6:decide ((s[k].toNat:Int)<=57)=true:=decide_eq_true (by omega);have hc3:((s[k].toNat:Int)==95)=false:=beq_eq_false_iff_ne.2 (by omega);have HY:=G (HN.out (HD.out.2 (by omega)));go_wp2;go_round
   case rel=>exact⟨k+1,by omega,by go_num,HY.out⟩
   simp[intOf];omega
  ·have hd1:decide (65<=(s[k].toNat:Int))=false:=decide_eq_false (by omega)
   have hd2:decide (97<=(s[k].toNat:Int))=false:=decide_eq_false (by omega);have hd3:decide (48<=(s[k].toNat:Int))=true:=decide_eq_true (by omega);have hd4:decide ((s[k].toNat:Int)<=90)=true:=decide_eq_true (by omega);have hd5:decide ((s[k].toNat:Int)<=122)=true:=decide_eq_true (by omega);have hd6:decide ((s[k].toNat:Int)<=57)=false:=decide_eq_false (by omega);have hc3:((s[k].toNat:Int)==95)=false:=beq_eq_false_iff_ne.2 (by omega);have HY:=G (HB.out (fun h=>by have h9:=HD.out.1 h;omega));go_wp2;go_ret;exact⟨cR HY.out.symm,rfl⟩
  ·have hd1:decide (65<=(s[k].toNat:Int))=true:=decide_eq_true (by omega)
   have hd2:decide (97<=(s[k].toNat:Int))=false:=decide_eq_false (by omega);have hd3:decide (48<=(s[k].toNat:Int))=true:=decide_eq_true (by omega);have hd4:decide ((s[k].toNat:Int)<=90)=true:=decide_eq_true (by omega);have hd5:decide ((s[k].toNat:Int)<=122)=true:=decide_eq_true (by omega);have hd6:decide ((s[k].toNat:Int)<=57)=false:=decide_eq_false (by omega);have hc3:((s[k].toNat:Int)==95)=false:=beq_eq_false_iff_ne.2 (by omega);have HY:=G (HN.out (HD.out.2 (by omega)));go_wp2;go_round
   case rel=>exact⟨k+1,by omega,by go_num,HY.out⟩
   simp[intOf];omega
  ·have hd1:decide (65<=(s[k].toNat:Int))=true:=decide_eq_true (by omega)
   have hd2:decide (97<=(s[k].toNat:Int))=false:=decide_eq_false (by omega);have hd3:decide (48<=(s[k].toNat:Int))=true:=decide_eq_true (by omega);have hd4:decide ((s[k].toNat:Int)<=90)=false:=decide_eq_false (by omega);have hd5:decide ((s[k].toNat:Int)<=122)=true:=decide_eq_true (by omega);have hd6:decide ((s[k].toNat:Int)<=57)=false:=decide_eq_false (by omega);have hc3:((s[k].toNat:Int)==95)=false:=beq_eq_false_iff_ne.2 (by omega);have HY:=G (HB.out (fun h=>by have h9:=HD.out.1 h;omega));go_wp2;go_ret;exact⟨cR HY.out.symm,rfl⟩
  ·have hd1:decide (65<=(s[k].toNat:Int))=true:=decide_eq_true (by omega)
   have hd2:decide (97<=(s[k].toNat:Int))=false:=decide_eq_false (by omega);have hd3:decide (48<=(s[k].toNat:Int))=true:=decide_eq_true (by omega);have hd4:decide ((s[k].toNat:Int)<=90)=false:=decide_eq_false (by omega);have hd5:decide ((s[k].toNat:Int)<=122)=true:=decide_eq_true (by omega);have hd6:decide ((s[k].toNat:Int)<=57)=false:=decide_eq_false (by omega);have hc3:((s[k].toNat:Int)==95)=true:=beq_iff_eq.2 (by omega);have HY:=G (HN.out (HD.out.2 (by omega)));go_wp2;go_round
   case rel=>exact⟨k+1,by omega,by go_num,HY.out⟩
   simp[intOf];omega
  ·have hd1:decide (65<=(s[k].toNat:Int))=true:=decide_eq_true (by omega)
   have hd2:decide (97<=(s[k].toNat:Int))=false:=decide_eq_false (by omega);have hd3:decide (48<=(s[k].toNat:Int))=true:=decide_eq_true (by omega);have hd4:decide ((s[k].toNat:Int)<=90)=false:=decide_eq_false (by omega);have hd5:decide ((s[k].toNat:Int)<=122)=true:=decide_eq_true (by omega);have hd6:decide ((s[k].toNat:Int)<=57)=false:=decide_eq_false (by omega);have hc3:((s[k].toNat:Int)==95)=false:=beq_eq_false_iff_ne.2 (by omega);have HY:=G (HB.out (fun h=>by have h9:=HD.out.1 h;omega));go_wp2;go_ret;exact⟨cR HY.out.symm,rfl⟩
  ·have hd1:decide (65<=(s[k].toNat:Int))=true:=decide_eq_true (by omega)
   have hd2:decide (97<=(s[k].toNat:Int))=true:=decide_eq_true (by omega);have hd3:decide (48<=(s[k].toNat:Int))=true:=decide_eq_true (by omega);have hd4:decide ((s[k].toNat:Int)<=90)=false:=decide_eq_false (by omega);have hd5:decide ((s[k].toNat:Int)<=122)=true:=decide_eq_true (by omega);have hd6:decide ((s[k].toNat:Int)<=57)=false:=decide_eq_false (by omega);have hc3:((s[k].toNat:Int)==95)=false:=beq_eq_false_iff_ne.2 (by omega);have HY:=G (HN.out (HD.out.2 (by omega)));go_wp2;go_round
   case rel=>exact⟨k+1,by omega,by go_num,HY.out⟩
   simp[intOf];omega
  have hd1:decide (65<=(s[k].toNat:Int))=true:=decide_eq_true (by omega);have hd2:decide (97<=(s[k].toNat:Int))=true:=decide_eq_true (by omega);have hd3:decide (48<=(s[k].toNat:Int))=true:=decide_eq_true (by omega);have hd4:decide ((s[k].toNat:Int)<=90)=false:=decide_eq_false (by omega);have hd5:decide ((s[k].toNat:Int)<=122)=false:=decide_eq_false (by omega);have hd6:decide ((s[k].toNat:Int)<=57)=false:=decide_eq_false (by omega);have hc3:((s[k].toNat:Int)==95)=false:=beq_eq_false_iff_ne.2 (by omega);have HY:=G (HB.out (fun h=>by have h9:=HD.out.1 h;omega));go_wp2;go_ret;exact⟨cR HY.out.symm,rfl⟩
 have HF:=G (sF (fun j hj=>HA.out j hj (by omega)));by_cases h1:s.size=0
 ·have h0:s.toList=[]:=kN h1
  have e1:=G h1;have hz:s.size<1:=by omega
  clear h1;go_wp2;go_ret;exact⟨cR (by rw[HF.out,e1.out];rfl),rfl⟩
 have h0:¬s.toList=[]:=kM h1;have h0':s.toList.isEmpty=false:=by simpa using h0
 by_cases h2:s.size<=32
 ·go_wp2
  go_ret;exact⟨cR (by rw[HF.out,decide_eq_true (show 1<=s.size by omega)];first|(rw[decide_eq_true (show s.size<=32 by omega)];simp;done)|(rw[decide_eq_false (show¬s.size<=32 by omega)];simp;done)|(simp;omega)),rfl⟩
 go_wp2;go_ret;exact⟨cR (by rw[HF.out,decide_eq_true (show 1<=s.size by omega)];first|(rw[decide_eq_true (show s.size<=32 by omega)];simp;done)|(rw[decide_eq_false (show¬s.size<=32 by omega)];simp;done)|(simp;omega)),rfl⟩
theorem tQ(s:ByteArray)(w:Wv)(hs:s.size<=9223372036854775807):
  Calls prog 153 #[.string s] w fun e w'=>e=.returned (.bool (bW s))/\w=w':=by
 go_enter func153,ntmps153;go_wp2;go_loop [4,3] (fun _ i=>∃k:Nat,k<=s.size/\i=I J k/\∀j,(hj:j<s.size)->j<k->nmc (s[j].toNat:Int)) (fun _ i=>s.size-(intOf i).toNat)
 case atStart=>exact⟨0,Nat.zero_le _,rfl,fun j _ h=>by omega⟩
 obtain⟨k,hk,rfl,hall⟩:=hrel;have HA:=G hall;clear hall;by_cases hlt:k<s.size
 ·have HB:=G (fun h=>sG hlt h)
  have HN:=G (fun(h:nmc (s[k].toNat:Int))=>show ∀j,(hj:j<s.size)->j<k+1->nmc (s[j].toNat:Int)from fun j hj hj2=>by
   by_cases e:j<k
   ·exact HA.out j hj e
   ·obtain rfl:j=k:=by omega
    exact h)
  have HD:=U (nmc (s[k].toNat:Int) ↔ ((65<=(s[k].toNat:Int)/\(s[k].toNat:Int)<=90)\/(97<=(s[k].toNat:Int)/\(s[k].toNat:Int)<=122)\/(48<=(s[k].toNat:Int)/\(s[k].toNat:Int)<=57)\/(s[k].toNat:Int)=95)) Iff.rfl;have hlt8:=s[k].toNat_lt;obtain⟨hc1,hc2⟩|⟨hc1,hc2⟩|⟨hc1,hc2⟩|⟨hc1,hc2⟩|⟨hc1,hc2⟩|⟨hc1,hc2⟩|⟨hc1,hc2⟩|⟨hc1,hc2⟩|⟨hc1,hc2⟩:(0<=(s[k].toNat:Int)/\(s[k].toNat:Int)<=47)\/(48<=(s[k].toNat:Int)/\(s[k].toNat:Int)<=57)\/(58<=(s[k].toNat:Int)/\(s[k].toNat:Int)<=64)\/(65<=(s[k].toNat:Int)/\(s[k].toNat:Int)<=90)\/(91<=(s[k].toNat:Int)/\(s[k].toNat:Int)<=94)\/(95<=(s[k].toNat:Int)/\(s[k].toNat:Int)<=95)\/(96<=(s[k].toNat:Int)/\(s[k].toNat:Int)<=96)\/(97<=(s[k].toNat:Int)/\(s[k].toNat:Int)<=122)\/(123<=(s[k].toNat:Int)/\(s[k].toNat:Int)<=255):=by omega
  ·have hd1:decide (65<=(s[k].toNat:Int))=false:=decide_eq_false (by omega)
   have hd2:decide (97<=(s[k].toNat:Int))=false:=decide_eq_false (by omega);have hd3:decide (48<=(s[k].toNat:Int))=false:=decide_eq_false (by omega);have hd4:decide ((s[k].toNat:Int)<=90)=true:=decide_eq_true (by omega);have hd5:decide ((s[k].toNat:Int)<=122)=true:=decide_eq_true (by omega);have hd6:decide ((s[k].toNat:Int)<=57)=true:=decide_eq_true (by omega);have hc3:((s[k].toNat:Int)==95)=false:=beq_eq_false_iff_ne.2 (by omega);have HY:=G (HB.out (fun h=>by have h9:=HD.out.1 h;omega));go_wp2;go_ret;exact⟨cR HY.out.symm,rfl⟩
  ·have hd1:decide (65<=(s[k].toNat:Int))=false:=decide_eq_false (by omega)
   have hd2:decide (97<=(s[k].toNat:Int))=false:=decide_eq_false (by omega);have hd3:decide (48<=(s[k].toNat:Int))=true:=decide_eq_true (by omega);have hd4:decide ((s[k].toNat:Int)<=90)=true:=decide_eq_true (by omega);have hd5:decide ((s[k].toNat:Int)<=122)=true:=decide_eq_true (by omega);have hd6:decide ((s[k].toNat:Int)<=57)=true:=decide_eq_true (by omega);have hc3:((s[k].toNat:Int)==95)=false:=beq_eq_false_iff_ne.2 (by omega);have HY:=G (HN.out (HD.out.2 (by omega)));go_wp2;go_round
   case rel=>exact⟨k+1,by omega,by go_num,HY.out⟩
   simp[intOf];omega
  ·have hd1:decide (65<=(s[k].toNat:Int))=false:=decide_eq_false (by omega)
   have hd2:decide (97<=(s[k].toNat:Int))=false:=decide_eq_false (by omega);have hd3:decide (48<=(s[k].toNat:Int))=true:=decide_eq_true (by omega);have hd4:decide ((s[k].toNat:Int)<=90)=true:=decide_eq_true (by omega);have hd5:decide ((s[k].toNat:Int)<=122)=true:=decide_eq_true (by omega);have hd6:decide ((s[k].toNat:Int)<=57)=false:=decide_eq_false (by omega);have hc3:((s[k].toNat:Int)==95)=false:=beq_eq_false_iff_ne.2 (by omega);have HY:=G (HB.out (fun h=>by have h9:=HD.out.1 h;omega));go_wp2;go_ret;exact⟨cR HY.out.symm,rfl⟩
  ·have hd1:decide (65<=(s[k].toNat:Int))=true:=decide_eq_true (by omega)
   have hd2:decide (97<=(s[k].toNat:Int))=false:=decide_eq_false (by omega);have hd3:decide (48<=(s[k].toNat:Int))=true:=decide_eq_true (by omega);have hd4:decide ((s[k].toNat:Int)<=90)=true:=decide_eq_true (by omega);have hd5:decide ((s[k].toNat:Int)<=122)=true:=decide_eq_true (by omega);have hd6:decide ((s[k].toNat:Int)<=57)=false:=decide_eq_false (by omega);have hc3:((s[k].toNat:Int)==95)=false:=beq_eq_false_iff_ne.2 (by omega);have HY:=G (HN.out (HD.out.2 (by omega)));go_wp2;go_round
   case rel=>exact⟨k+1,by omega,by go_num,HY.out⟩
   simp[intOf];omega
  ·have hd1:decide (65<=(s[k].toNat:Int))=true:=decide_eq_true (by omega)
   have hd2:decide (97<=(s[k].toNat:Int))=false:=decide_eq_false (by omega);have hd3:decide (48<=(s[k].toNat:Int))=true:=decide_eq_true (by omega);have hd4:decide ((s[k].toNat:Int)<=90)=false:=decide_eq_false (by omega);have hd5:decide ((s[k].toNat:Int)<=122)=true:=decide_eq_true (by omega);have hd6:decide ((s[k].toNat:Int)<=57)=false:=decide_eq_false (by omega);have hc3:((s[k].toNat:Int)==95)=false:=beq_eq_false_iff_ne.2 (by omega);have HY:=G (HB.out (fun h=>by have h9:=HD.out.1 h;omega));go_wp2;go_ret;exact⟨cR HY.out.symm,rfl⟩
  ·have hd1:decide (65<=(s[k].toNat:Int))=true:=decide_eq_true (by omega)
   have hd2:decide (97<=(s[k].toNat:Int))=false:=decide_eq_false (by omega);have hd3:decide (48<=(s[k].toNat:Int))=true:=decide_eq_true (by omega);have hd4:decide ((s[k].toNat:Int)<=90)=false:=decide_eq_false (by omega);have hd5:decide ((s[k].toNat:Int)<=122)=true:=decide_eq_true (by omega);have hd6:decide ((s[k].toNat:Int)<=57)=false:=decide_eq_false (by omega);have hc3:((s[k].toNat:Int)==95)=true:=beq_iff_eq.2 (by omega);have HY:=G (HN.out (HD.out.2 (by omega)));go_wp2;go_round
   case rel=>exact⟨k+1,by omega,by go_num,HY.out⟩
   simp[intOf];omega
  ·have hd1:decide (65<=(s[k].toNat:Int))=true:=decide_eq_true (by omega)
   have hd2:decide (97<=(s[k].toNat:Int))=false:=decide_eq_false (by omega);have hd3:decide (48<=(s[k].toNat:Int))=true:=decide_eq_true (by omega);have hd4:decide ((s[k].toNat:Int)<=90)=false:=decide_eq_false (by omega);have hd5:decide ((s[k].toNat:Int)<=122)=true:=decide_eq_true (by omega);have hd6:decide ((s[k].toNat:Int)<=57)=false:=decide_eq_false (by omega);have hc3:((s[k].toNat:Int)==95)=false:=beq_eq_false_iff_ne.2 (by omega);have HY:=G (HB.out (fun h=>by have h9:=HD.out.1 h;omega));go_wp2;go_ret;exact⟨cR HY.out.symm,rfl⟩
  ·have hd1:decide (65<=(s[k].toNat:Int))=true:=decide_eq_true (by omega)
   have hd2:decide (97<=(s[k].toNat:Int))=true:=decide_eq_true (by omega);have hd3:decide (48<=(s[k].toNat:Int))=true:=decide_eq_true (by omega);have hd4:decide ((s[k].toNat:Int)<=90)=false:=decide_eq_false (by omega);have hd5:decide ((s[k].toNat:Int)<=122)=true:=decide_eq_true (by omega);have hd6:decide ((s[k].toNat:Int)<=57)=false:=decide_eq_false (by omega);have hc3:((s[k].toNat:Int)==95)=false:=beq_eq_false_iff_ne.2 (by omega);have HY:=G (HN.out (HD.out.2 (by omega)));go_wp2;go_round
   case rel=>exact⟨k+1,by omega,by go_num,HY.out⟩
   simp[intOf];omega
  have hd1:decide (65<=(s[k].toNat:Int))=true:=decide_eq_true (by omega);have hd2:decide (97<=(s[k].toNat:Int))=true:=decide_eq_true (by omega);have hd3:decide (48<=(s[k].toNat:Int))=true:=decide_eq_true (by omega);have hd4:decide ((s[k].toNat:Int)<=90)=false:=decide_eq_false (by omega);have hd5:decide ((s[k].toNat:Int)<=122)=false:=decide_eq_false (by omega);have hd6:decide ((s[k].toNat:Int)<=57)=false:=decide_eq_false (by omega);have hc3:((s[k].toNat:Int)==95)=false:=beq_eq_false_iff_ne.2 (by omega);have HY:=G (HB.out (fun h=>by have h9:=HD.out.1 h;omega));go_wp2;go_ret;exact⟨cR HY.out.symm,rfl⟩
 have HF:=G (sF (fun j hj=>HA.out j hj (by omega)));by_cases h1:s.size=0
 ·have h0:s.toList=[]:=kN h1
  have e1:=G h1;have hz:s.size<1:=by omega
  clear h1;go_wp2;go_ret;exact⟨cR (by rw[HF.out,e1.out];rfl),rfl⟩
 have h0:¬s.toList=[]:=kM h1;have h0':s.toList.isEmpty=false:=by simpa using h0
 by_cases h2:s.size<=32
 ·go_wp2
  go_ret;exact⟨cR (by rw[HF.out,decide_eq_true (show 1<=s.size by omega)];first|(rw[decide_eq_true (show s.size<=32 by omega)];simp;done)|(rw[decide_eq_false (show¬s.size<=32 by omega)];simp;done)|(simp;omega)),rfl⟩
 go_wp2;go_ret;exact⟨cR (by rw[HF.out,decide_eq_true (show 1<=s.size by omega)];first|(rw[decide_eq_true (show s.size<=32 by omega)];simp;done)|(rw[decide_eq_false (show¬s.size<=32 by omega)];simp;done)|(simp;omega)),rfl⟩
structure Grp where
 name:ByteArray
 lo:Int
 hi:Int
 deriving DecidableEq
structure Elt where
 p:Int
 s:Int
 t:Int
 v:Bool
 deriving DecidableEq
structure Ent where
 codes:Li
 elems:List Elt
 deriving DecidableEq
structure Col where
 ents:List Ent
 grps:List Grp
 base:Int
 second:Int
 third:Int
def Grp.cells(g:Grp):Lv:=[.string g.name,I J g.lo,I J g.hi]
def Elt.cells(e:Elt):Lv:=[I J e.p,I J e.s,I J e.t,.bool e.v]
section
variable {α:Type}(enc:α->Lv)
def aE(xs:List α):Lv:=xs.flatMap enc
theorem gE(k:Nat)(hk:∀x,(enc x).length=k)(xs:List α):(aE enc xs).length=xs.length*k:=by
 induction xs with
 |nil=>simp[aE]
 |cons x xs ih=>simp only[aE,List.flatMap_cons,List.length_append,List.length_cons,hk]at *;rw[ih,Nat.add_mul,Nat.one_mul,Nat.add_comm]
theorem gW(k:Nat)(hk:∀x,(enc x).length=k)(xs:List α)(i j:Nat)(hi:i<xs.length)(hj:j<k):(aE enc xs)[i*k+j]?=(enc xs[i])[j]?:=by
 induction xs generalizing i with
 |nil=>simp at hi
 |cons x xs ih=>
  cases i with
  |zero=>
   simp only[aE,List.flatMap_cons,Nat.zero_mul,Nat.zero_add,List.getElem_cons_zero];rw[List.getElem?_append_left (by rw[hk];exact hj)]
  |succ i=>
   simp only[aE,List.flatMap_cons,List.getElem_cons_succ];rw[List.getElem?_append_right (by rw[hk,Nat.add_mul];omega),hk,show(i+1)*k+j-k=i*k+j by rw[Nat.add_mul,Nat.one_mul];omega];exact ih i (by simpa using hi)
theorem k_(xs ys:List α):aE enc (xs++ys)=aE enc xs++aE enc ys:=by simp[aE]
end
def dN{α:Type}(enc:α->Lv)(w:Wv)(A:Oa)(xs:List α):Prop:=Sl w A (aE enc xs)
theorem dN.below{α:Type}{enc:α->Lv}{w w':Wv}{A:Oa}{xs:List α}(h:dN enc w A xs)(hb:By w w'):dN enc w' A xs:=Sl.below h hb
theorem dN.at{α:Type}{enc:α->Lv}{w:Wv}{A:Oa}{xs:List α}(k:Nat)(hk:∀x,(enc x).length=k)(k0:0<k)(h:dN enc w A xs){m:Nat}(hm:m<xs.length):
  ∃b o,A=Z ⟨b,o,N⟩/\b<w.heap.size/\∀i,(hi:i<xs.length)->∀j u,(enc xs[i])[j]?=Z u->w.cell? ⟨b,o+(i*k+j),N⟩=Z u:=by
 have hget:∀i,(hi:i<xs.length)->∀j u,(enc xs[i])[j]?=Z u->(aE enc xs)[i*k+j]?=Z u:=by
  intro i hi j u hu;have hj:j<k:=by have:=(List.getElem?_eq_some_iff.1 hu).1;rw[hk]at this;exact this
  rw[gW enc k hk xs i j hi hj];exact hu
 have hlen:m*k<(aE enc xs).length:=by
  rw[gE enc k hk];exact Nat.mul_lt_mul_of_pos_right hm k0
 obtain⟨b,o,rfl,hc⟩:=Sl.at h hlen;have h0:0<(enc xs[m]).length:=by rw[hk];exact k0
 refine⟨b,o,rfl,World.block_lt_of_cell? w _ (hc _ _ (hget m hm 0 _ (List.getElem?_eq_getElem h0))),fun i hi j u hu=>hc _ _ (hget i hi j u hu)⟩
def iA(w:Wv)(A:Oa)(gs:List Grp):Prop:=dN Grp.cells w A gs
theorem iA.below{w w':Wv}{A:Oa}{gs:List Grp}(h:iA w A gs)(hb:By w w'):iA w' A gs:=dN.below h hb
theorem iA.at{w:Wv}{A:Oa}{gs:List Grp}(h:iA w A gs){m:Nat}(hm:m<gs.length):
  ∃b o,A=Z ⟨b,o,N⟩/\b<w.heap.size/\∀i,(hi:i<gs.length)->w.cell? ⟨b,o+i*3,N⟩=Z (.string gs[i].name)/\w.cell? ⟨b,o+i*3+1,N⟩=Z (I J gs[i].lo)/\w.cell? ⟨b,o+i*3+2,N⟩=Z (I J gs[i].hi):=by
 obtain⟨b,o,rfl,hb,hc⟩:=dN.at 3 (fun _=>rfl) (by omega) h hm;exact⟨b,o,rfl,hb,fun i hi=>⟨hc i hi 0 _ rfl,hc i hi 1 _ rfl,hc i hi 2 _ rfl⟩⟩
def cB(w:Wv)(A:Oa)(es:List Elt):Prop:=dN Elt.cells w A es
theorem cB.below{w w':Wv}{A:Oa}{es:List Elt}(h:cB w A es)(hb:By w w'):cB w' A es:=dN.below h hb
theorem cB.at{w:Wv}{A:Oa}{es:List Elt}(h:cB w A es){m:Nat}(hm:m<es.length):
  ∃b o,A=Z ⟨b,o,N⟩/\b<w.heap.size/\∀i,(hi:i<es.length)->w.cell? ⟨b,o+i*4,N⟩=Z (I J es[i].p)/\w.cell? ⟨b,o+i*4+1,N⟩=Z (I J es[i].s)/\w.cell? ⟨b,o+i*4+2,N⟩=Z (I J es[i].t)/\w.cell? ⟨b,o+i*4+3,N⟩=Z (.bool es[i].v):=by
 obtain⟨b,o,rfl,hb,hc⟩:=dN.at 4 (fun _=>rfl) (by omega) h hm;exact⟨b,o,rfl,hb,fun i hi=>⟨hc i hi 0 _ rfl,hc i hi 1 _ rfl,hc i hi 2 _ rfl,hc i hi 3 _ rfl⟩⟩
structure eR(w:Wv)(v:Value×Value)(x:Ent):Prop where
 ex:∃A c B d,v=(H A x.codes.length c,H B x.elems.length d)/\aB w A x.codes/\cB w B x.elems
theorem eR.below{w w':Wv}{v:Value×Value}{x:Ent}(h:eR w v x)(hb:By w w'):eR w' v x:=by
 obtain⟨A,c,B,d,hv,h1,h2⟩:=h.ex;exact⟨A,c,B,d,hv,h1.below hb,h2.below hb⟩
def gB(w:Wv)(A:Oa)(xs:List Ent):Prop:=
 ∃vs:List (Value×Value),vs.length=xs.length/\dN (fun v=>[v.1,v.2]) w A vs/\∀i,(hi:i<xs.length)->(hv:i<vs.length)->eR w vs[i] xs[i]
theorem gB.below{w w':Wv}{A:Oa}{xs:List Ent}(h:gB w A xs)(hb:By w w'):gB w' A xs:=by
 obtain⟨vs,h1,h2,h3⟩:=h;exact⟨vs,h1,h2.below hb,fun i hi hv=>(h3 i hi hv).below hb⟩
theorem gB.at{w:Wv}{A:Oa}{xs:List Ent}(h:gB w A xs){m:Nat}(hm:m<xs.length):
  ∃b o,A=Z ⟨b,o,N⟩/\b<w.heap.size/\∀i,(hi:i<xs.length)->∃C c E d,w.cell? ⟨b,o+i*2,N⟩=Z (H C xs[i].codes.length c)/\w.cell? ⟨b,o+i*2+1,N⟩=Z (H E xs[i].elems.length d)/\aB w C xs[i].codes/\cB w E xs[i].elems:=by
 obtain⟨vs,h1,h2,h3⟩:=h;obtain⟨b,o,rfl,hb,hc⟩:=dN.at 2 (fun _=>rfl) (by omega) h2 (m:=m) (by omega);refine⟨b,o,rfl,hb,fun i hi=>?_⟩;obtain⟨C,c,E,d,hv,e1,e2⟩:=(h3 i hi (by omega)).ex;refine⟨C,c,E,d,?_,?_,e1,e2⟩
 ·have:=hc i (by omega) 0 vs[i].1 rfl;rw[hv]at this;exact this
 have:=hc i (by omega) 1 vs[i].2 rfl;rw[hv]at this;exact this
def aS(A:Oa)(n a:Nat)(B:Oa)(m b:Nat)(c:Col):Value:=.agg #[H A n a,H B m b,I J c.base,I J c.second,I J c.third]
structure aY(w:Wv)(A:Oa)(n:Nat)(B:Oa)(m:Nat)(c:Col):Prop where
 ents:gB w A c.ents
 grps:iA w B c.grps
 hn:c.ents.length=n
 hm:c.grps.length=m
 hs:∀g∈c.grps,g.name.size<=9223372036854775807
theorem aY.below{w w':Wv}{A:Oa}{n:Nat}{B:Oa}{m:Nat}{c:Col}(h:aY w A n B m c)(hb:By w w'):aY w' A n B m c:=⟨h.ents.below hb,h.grps.below hb,h.hn,h.hm,h.hs⟩
def inR(lo hi n:Int):Bool:=decide (lo<=n)&&decide (n<=hi)
theorem fU{lo hi n:Int}(h1:lo<=n)(h2:n<=hi):inR lo hi n=true:=by simp[inR,h1,h2]
theorem nB{lo hi n:Int}(h:n<lo):inR lo hi n=false:=by simp[inR];omega
theorem nA{lo hi n:Int}(h:hi<n):inR lo hi n=false:=by simp[inR];omega
theorem jH{lo hi n:Int}:inR lo hi n=true ↔ lo<=n/\n<=hi:=by simp[inR]
theorem oQ{lo hi n:Int}:inR lo hi n=false ↔ n<lo\/hi<n:=by simp[inR];omega
def eG(e:Elt):Int:=
 if e.p<0\/65535<e.p\/e.s<0\/65535<e.s\/e.t<0\/65535<e.t then 1
 else if(e.p≠0/\(e.s=0\/e.t=0))\/(e.s≠0/\e.t=0)\/(e.v=true/\e.p=0)then 11 else 0
def gV:Li->Int
 | []=>0
 |x::r=>if x=0 then gV r else x
def bJ(base:Int)(x:Ent):Int:=
 if x.codes.length<1\/8<x.codes.length\/16<x.elems.length then 2
 else if x.codes.any (fun c=>decide (c<0\/1114111<c))then 1
 else if gV (x.elems.map eG)≠0 then gV (x.elems.map eG)
 else if x.elems.any (fun e=>decide (base<=e.p))then 1 else 0
def dR(base:Int):List Ent->Option Ent->Int
 | [],_=>0
 |x::r,prev=>if bJ base x≠0 then bJ base x else match prev with
  |none=>dR base r (Z x)
  |some y=>if 0<=aA y.codes x.codes then 4 else dR base r (Z x)
def gap:List Grp->Bool
 |g::h::r=>decide (h.lo≠g.hi+1)||gap (h::r)
 |_=>false
def gD(base:Int)(g:Grp):Prop:=g.lo<1\/g.hi<g.lo\/base<=g.hi
instance (base:Int) (g:Grp):Decidable (gD base g):=by unfold gD;exact inferInstance
def cF(base:Int)(gs:List Grp):Int:=
 if gs.any (fun g=>!bW g.name)then 6
 else if¬(gs.map Grp.name).Nodup then 5
 else if gs.any (fun g=>decide (gD base g))then 1
 else if gap gs then 4 else 0
def aH(c:Col):Int:=
 if c.base<1\/65502<c.base\/inR 1 65535 c.second=false\/inR 1 65535 c.third=false then 1
 else if cF c.base c.grps≠0 then cF c.base c.grps
 else dR c.base c.ents N
theorem jA{α:Type}{p:α->Bool}{xs:List α}{k:Nat}(hk:k<xs.length)(h:p xs[k]=true):xs.any p=true:=List.any_eq_true.2 ⟨xs[k],List.getElem_mem hk,h⟩
theorem gC{α:Type}{p:α->Bool}{xs:List α}(h:∀t,(ht:t<xs.length)->p xs[t]=false):xs.any p=false:=by
 rw[List.any_eq_false];intro x hx;obtain⟨i,hi,rfl⟩:=List.getElem_of_mem hx;rw[h i hi];simp
theorem JY{gs:List Grp}{k:Nat}(hk:k+1<gs.length)(h:gs[k+1].lo≠gs[k].hi+1):gap gs=true:=by
 induction gs generalizing k with
 |nil=>simp at hk
 |cons a r ih=>
  cases r with
  |nil=>simp at hk
  |cons b r=>
   cases k with
   |zero=>simp only[List.getElem_cons_zero,List.getElem_cons_succ]at h;simp[gap,h]
   |succ k=>
    simp only[gap,Bool.or_eq_true];right;exact ih (k:=k) (by simpa using hk) (by simpa using h)
theorem JX{gs:List Grp}(h:∀t,(ht:t+1<gs.length)->gs[t+1].lo=gs[t].hi+1):gap gs=false:=by
 induction gs with
 |nil=>rfl
 |cons a r ih=>
  cases r with
  |nil=>rfl
  |cons b r=>
   have h0:=h 0 (by simp);simp only[List.getElem_cons_zero,List.getElem_cons_succ]at h0;simp only[gap,Bool.or_eq_false_iff];refine⟨by simpa using h0,ih fun t ht=>?_⟩;have:=h (t+1) (by simpa using ht);simpa using this
section
variable {base:Int}{gs:List Grp}
theorem LA{k:Nat}(hk:k<gs.length)(h:bW gs[k].name=false):cF base gs=6:=by
 unfold cF;rw[if_pos (jA hk (by simp[h]))]
theorem oO(h:∀t,(ht:t<gs.length)->bW gs[t].name=true):gs.any (fun g=>!bW g.name)=false:=gC fun t ht=>by simp[h t ht]
theorem K_(h6:∀t,(ht:t<gs.length)->bW gs[t].name=true)(h:¬(gs.map Grp.name).Nodup):cF base gs=5:=by
 unfold cF;rw[if_neg (by rw[oO h6];simp),if_pos h]
theorem KU(h6:∀t,(ht:t<gs.length)->bW gs[t].name=true)(h5:(gs.map Grp.name).Nodup){k:Nat}(hk:k<gs.length)(h:gD base gs[k]):cF base gs=1:=by
 unfold cF;rw[if_neg (by rw[oO h6];simp),if_neg (by simpa using h5),if_pos (jA hk (by simpa using h))]
theorem KZ(h6:∀t,(ht:t<gs.length)->bW gs[t].name=true)(h5:(gs.map Grp.name).Nodup)(h1:∀t,(ht:t<gs.length)->¬gD base gs[t]){k:Nat}(hk:k+1<gs.length)(h:gs[k+1].lo≠gs[k].hi+1):cF base gs=4:=by
 unfold cF;rw[if_neg (by rw[oO h6];simp),if_neg (by simpa using h5),if_neg (by rw[gC fun t ht=>by simpa using h1 t ht];simp),if_pos (JY hk h)]
theorem KQ(h6:∀t,(ht:t<gs.length)->bW gs[t].name=true)(h5:(gs.map Grp.name).Nodup)(h1:∀t,(ht:t<gs.length)->¬gD base gs[t])(h:∀t,(ht:t+1<gs.length)->gs[t+1].lo=gs[t].hi+1):cF base gs=0:=by
 unfold cF;rw[if_neg (by rw[oO h6];simp),if_neg (by simpa using h5),if_neg (by rw[gC fun t ht=>by simpa using h1 t ht];simp),if_neg (by rw[JX h];simp)]
theorem eK{α:Type}{xs:List α}{P:α->Prop}{i:Nat}(hlt:i<xs.length)(h:∀t,(ht:t<xs.length)->t<i->P xs[t])(hi:P xs[i]):∀t,(ht:t<xs.length)->t<i+1->P xs[t]:=by
 intro t ht g;by_cases e:t<i
 ·exact h t ht e
 obtain rfl:t=i:=by omega
 exact hi
def nms(gs:List Grp)(k:Nat):List ByteArray:=(gs.take k).map Grp.name
theorem sI{k:Nat}(hk:k<gs.length):nms gs (k+1)=nms gs k++[gs[k].name]:=by
 unfold nms;rw[List.take_succ_eq_append_getElem hk,List.map_append];rfl
theorem PJ:nms gs gs.length=gs.map Grp.name:=by unfold nms;rw[List.take_length]
theorem PK{k:Nat}(hk:k<gs.length)(h:gs[k].name∈nms gs k):¬(gs.map Grp.name).Nodup:=by
 intro hn;have hs:(nms gs (k+1)).Sublist (gs.map Grp.name):=by
  unfold nms;exact(List.take_sublist _ _).map _
 have h1:=hn.sublist hs;rw[sI hk,List.nodup_append]at h1;exact h1.2.2 _ h _ (List.mem_singleton.2 rfl) rfl
theorem PM{k:Nat}(hk:k<gs.length)(hn:(nms gs k).Nodup)(h:gs[k].name ∉ nms gs k):(nms gs (k+1)).Nodup:=by
 rw[sI hk,List.nodup_append];refine⟨hn,by simp,fun a ha b hb e=>?_⟩;rw[List.mem_singleton]at hb;subst hb;subst e;exact h ha
end
end
section
open Go.ChangeShapes Go.WideShapes Go.ChangeAt Go.RowKit
theorem iL{H:Type}{enc:TypeId×Value->H}{P:Program}{w:Wv}{base:Nat}{spare:Nat->Bool}{held:Bool}{t e:TypeId}{α:Type}[Inhabited α](en:α->Lv)(k:Nat)(k0:0<k)(hk:∀x,(en x).length=k)(R:α->Prop)
  (ht:P.underlying t=Z (.slice e)) (hc:P.cellsOf e=k)
  (hread:∀fuel cs x,cs.length=k->DataW.trod enc P w base spare held fuel e cs=Z x->∃a:α,cs=en a/\R a)
  {fuel:Nat} {cs:Lv} {x:DataW H×List MemPlace} (h:DataW.trod enc P w base spare held fuel t cs=Z x) :
  ∃A len cap,∃l:List α,cs=[.slice A len cap]/\l.length=len/\len<=cap/\cap<=9223372036854775807/\dN en w A l/\∀a∈l,R a:=by
 rcases Deep.open_slice ht h with⟨hcs,_⟩|⟨a,l,c,m,n,D,Pl,hcs,hb,hl,hm,hmm,_,hx⟩
 ·exact⟨N,0,0,[],hcs,rfl,Nat.le_refl _,by omega,Sl.nil _ _,fun _ h=>by cases h⟩
 unfold maxLen at hm;have hlm:l<=m:=by rw[hmm];split<;>omega
 have each:∀i,i<l->∃q:α,(∀j,j<k->w.cell? (a.add (i*k+j))=(en q)[j]?)/\R q:=by
  intro i hi;obtain⟨cs',h1,h2⟩:=hx i (by omega);rw[hc]at h1;obtain⟨_,hlen,hcell⟩:=World.cells?_some h1;obtain⟨q,hq,hr⟩:=hread _ _ _ hlen h2;refine⟨q,fun j hj=>?_,hr⟩;have:=hcell j hj;rw[Deep.add_add,hq]at this;exact this
 obtain⟨V,hV⟩:=Deep.choose_lt each;refine⟨Z a,l,c,(List.range l).map V,hcs,by simp,hl,hm,?_,fun y hy=>?_⟩
 ·intro hne
  have hlen:0<l:=by
   rcases Nat.eq_zero_or_pos l with h0|h0
   ·subst h0;simp[aE]at hne
   exact h0
  obtain⟨b,off,spot⟩:=a;have hz:=(hV 0 hlen).1 0 k0;have hspot:spot=N:=by
   have h1:0<(en (V 0)).length:=by rw[hk];exact k0
   rw[List.getElem?_eq_getElem h1]at hz;simpa[Addr.add]using World.cell?_spot hz
  subst hspot;refine⟨b,off,rfl,fun j u hu=>?_⟩
  have addp:∀i,(⟨b,off,N⟩:Addr).add i=⟨b,off+i,N⟩:=fun i=>by
   unfold Addr.add;split
   ·next h0=>subst h0;rfl
   rfl
  have hj:j<l*k:=by
   have:=(List.getElem?_eq_some_iff.1 hu).1;rw[gE en k hk]at this;simpa using this
  have hi:j/k<l:=(Nat.div_lt_iff_lt_mul k0).2 hj;have hr:j%k<k:=Nat.mod_lt _ k0;have hjj:j/k*k+j%k=j:=by rw[Nat.mul_comm];exact Nat.div_add_mod j k
  have h1:=gW en k hk ((List.range l).map V) (j/k) (j%k) (by simpa using hi) hr;rw[hjj,hu]at h1;have h2:=(hV (j/k) hi).1 (j%k) hr;rw[hjj,addp]at h2;simp only[List.getElem_map,List.getElem_range]at h1;rw[h2,<-h1]
 obtain⟨i,hi,rfl⟩:=List.mem_map.1 hy;exact(hV i (List.mem_range.1 hi)).2
end
section
open Go.RowKit
def bU(n:Int)(w:Wv)(e:Ending)(w':Wv):Prop:=e=.returned (I J n)/\By w w'
def eD(x:Bool)(w:Wv)(e:Ending)(w':Wv):Prop:=e=.returned (.bool x)/\By w w'
def iY(w:Wv)(e:Ending)(w':Wv):Prop:=e=.returned (.bool true)/\By w w'
theorem MJ(n:Int)(w:Wv):Calls prog 67 #[I J n] w fun e w'=>e=.returned (.bool (inR 1 65535 n))/\w=w':=by
 by_cases h1:1<=n
 ·by_cases h2:n<=65535
  ·rw[fU h1 h2]
   go_enter func67,ntmps67;go_wp2;go_ret;exact⟨rfl,rfl⟩
  rw[nA (show 65535<n by omega)];go_enter func67,ntmps67;go_wp2;go_ret;exact⟨rfl,rfl⟩
 rw[nB (show n<1 by omega)];go_enter func67,ntmps67;go_wp2;go_ret;exact⟨rfl,rfl⟩
theorem weight42_any(n:Int)(w:Wv):Calls prog 186 #[I J n] w fun e w'=>e=.returned (.bool (inR 0 65535 n))/\w=w':=by
 by_cases h1:0<=n
 ·by_cases h2:n<=65535
  ·rw[fU h1 h2]
   go_enter func186,ntmps186;go_wp2;go_ret;exact⟨rfl,rfl⟩
  rw[nA (show 65535<n by omega)];go_enter func186,ntmps186;go_wp2;go_ret;exact⟨rfl,rfl⟩
 rw[nB (show n<0 by omega)];go_enter func186,ntmps186;go_wp2;go_ret;exact⟨rfl,rfl⟩
theorem gM(n:Int)(w:Wv):Calls prog 129 #[I J n] w fun e w'=>e=.returned (.bool (inR 0 1114111 n))/\w=w':=by
 by_cases h1:0<=n
 ·by_cases h2:n<=1114111
  ·rw[fU h1 h2]
   go_enter func129,ntmps129;go_wp2;go_ret;exact⟨rfl,rfl⟩
  rw[nA (show 1114111<n by omega)];go_enter func129,ntmps129;go_wp2;go_ret;exact⟨rfl,rfl⟩
 rw[nB (show n<0 by omega)];go_enter func129,ntmps129;go_wp2;go_ret;exact⟨rfl,rfl⟩
theorem lC(n:Int)(w:Wv):Calls prog 107 #[I J n] w fun e w'=>e=.returned (.bool (inR 0 1114111 n))/\w=w':=by
 by_cases h1:0<=n
 ·by_cases h2:n<=1114111
  ·rw[fU h1 h2]
   go_enter func107,ntmps107;go_wp2;go_ret;exact⟨rfl,rfl⟩
  rw[nA (show 1114111<n by omega)];go_enter func107,ntmps107;go_wp2;go_ret;exact⟨rfl,rfl⟩
 rw[nB (show n<0 by omega)];go_enter func107,ntmps107;go_wp2;go_ret;exact⟨rfl,rfl⟩
theorem z01(p:Int):((p==0)=true/\(p !=0)=false/\Hid (p=0))\/((p==0)=false/\(p !=0)=true/\Hid (p≠0)):=by
 unfold Hid;by_cases h:p=0
 ·left;simp[h]
 right;simp[h]
theorem lZ(x y z:Value)(W:Wv):(Instr.index 145 (.agg #[x,y,z]) (I J 0)).run prog W=.ok x W/\(Instr.index 145 (.agg #[x,y,z]) (I J 1)).run prog W=.ok y W/\(Instr.index 145 (.agg #[x,y,z]) (I J 2)).run prog W=.ok z W:=⟨by kernel_rfl,by kernel_rfl,by kernel_rfl⟩
theorem ID(e:Elt)(w:Wv):Calls prog 130 #[.agg #[I J e.p,I J e.s,I J e.t,.bool e.v]] w (bU (eG e) w):=by
 obtain⟨p,s,t,v⟩:=e;have H1:=G (fun(h:p<0\/65535<p\/s<0\/65535<s\/t<0\/65535<t)=>show eG ⟨p,s,t,v⟩=1 by unfold eG;rw[if_pos h]);have H2:=G (fun(h:¬(p<0\/65535<p\/s<0\/65535<s\/t<0\/65535<t))=>show eG ⟨p,s,t,v⟩=if(p≠0/\(s=0\/t=0))\/(s≠0/\t=0)\/(v=true/\p=0)then 11 else 0 by unfold eG;rw[if_neg h]);have x0:=fun W=>(lZ (I J p) (I J s) (I J t) W).1
 have x1:=fun W=>(lZ (I J p) (I J s) (I J t) W).2.1
 have x2:=fun W=>(lZ (I J p) (I J s) (I J t) W).2.2
 have BEL:=G ((Below.refl w.heap.size w).alloc (Nat.le_refl _) (.cells #[I J p,I J s,I J t,.bool v] 77));generalize eG ⟨p,s,t,v⟩=R at *;dsimp only;go_enter func130,ntmps130;go_wp2;go_loop [4,12] (fun _ u=>∃j:Int,0<=j/\j<=3/\u=I J j/\(0<j->0<=p/\p<=65535)/\(1<j->0<=s/\s<=65535)/\(2<j->0<=t/\t<=65535)) (fun _ u=>3-(intOf u).toNat)
 case atStart=>exact⟨0,by omega,by omega,rfl,by omega,by omega,by omega⟩
 obtain⟨j,hj0,hj3,rfl,g0,g1,g2⟩:=hrel;obtain rfl|rfl|rfl|rfl:j=0\/j=1\/j=2\/j=3:=by omega
 ·clear g0 g1 g2
  go_wp2
  all_goals first
   |(go_ret;exact⟨aQ (H1.out (by omega)).symm,BEL.out⟩)
   | (go_round
      case rel=>exact⟨1,by omega,by omega,rfl,by omega,by omega,by omega⟩
      case measure=>simp[intOf])
 ·have G0:=g0 (by omega)
  clear g0 g1 g2;go_wp2
  all_goals first
   |(go_ret;exact⟨aQ (H1.out (by omega)).symm,BEL.out⟩)
   | (go_round
      case rel=>exact⟨2,by omega,by omega,rfl,by omega,by omega,by omega⟩
      case measure=>simp[intOf])
 ·have G0:=g0 (by omega)
  have G1:=g1 (by omega);clear g0 g1 g2;go_wp2
  all_goals first
   |(go_ret;exact⟨aQ (H1.out (by omega)).symm,BEL.out⟩)
   | (go_round
      case rel=>exact⟨3,by omega,by omega,rfl,by omega,by omega,by omega⟩
      case measure=>simp[intOf])
 have G0:=g0 (by omega);have G1:=g1 (by omega);have G2:=g2 (by omega);have H3:=G (H2.out (by omega));clear g0 g1 g2 H1 H2 G0 G1 G2 x0 x1 x2;rcases z01 p with⟨p1,p2,p3⟩|⟨p1,p2,p3⟩<;>rcases z01 s with⟨s1,s2,s3⟩|⟨s1,s2,s3⟩<;>rcases z01 t with⟨t1,t2,t3⟩|⟨t1,t2,t3⟩<;>cases v
 all_goals
  go_wp2;go_ret;refine⟨aQ ?_,BEL.out⟩;rw[H3.out];simp[p3.out,s3.out,t3.out]
structure Mp where
 frm:Int
 toq:Li
 tag:ByteArray
 deriving DecidableEq
structure Rg where
 lo:Int
 hi:Int
 deriving DecidableEq
def Rg.cells(r:Rg):Lv:=[I J r.lo,I J r.hi]
def Rgs(w:Wv)(A:Oa)(rs:List Rg):Prop:=dN Rg.cells w A rs
theorem Rgs.below{w w':Wv}{A:Oa}{rs:List Rg}(h:Rgs w A rs)(hb:By w w'):Rgs w' A rs:=dN.below h hb
theorem Rgs.at{w:Wv}{A:Oa}{rs:List Rg}(h:Rgs w A rs){m:Nat}(hm:m<rs.length):
  ∃b o,A=Z ⟨b,o,N⟩/\b<w.heap.size/\∀i,(hi:i<rs.length)->w.cell? ⟨b,o+i*2,N⟩=Z (I J rs[i].lo)/\w.cell? ⟨b,o+i*2+1,N⟩=Z (I J rs[i].hi):=by
 obtain⟨b,o,rfl,hb,hc⟩:=dN.at 2 (fun _=>rfl) (by omega) h hm;exact⟨b,o,rfl,hb,fun i hi=>⟨hc i hi 0 _ rfl,hc i hi 1 _ rfl⟩⟩
def mpC(p:Mp×Value):Lv:=[I J p.1.frm,p.2,.string p.1.tag]
def Mps(w:Wv)(A:Oa)(ms:List Mp):Prop:=
 ∃vs:Lv,vs.length=ms.length/\dN mpC w A (ms.zip vs)/\∀i,(hi:i<ms.length)->(hv:i<vs.length)->∃C c,vs[i]=H C ms[i].toq.length c/\ms[i].toq.length<=c/\aB w C ms[i].toq
theorem Mps.below{w w':Wv}{A:Oa}{ms:List Mp}(h:Mps w A ms)(hb:By w w'):Mps w' A ms:=by
 obtain⟨vs,h1,h2,h3⟩:=h;refine⟨vs,h1,h2.below hb,fun i hi hv=>?_⟩;obtain⟨C,c,e1,e2,e3⟩:=h3 i hi hv;exact⟨C,c,e1,e2,e3.below hb⟩
theorem Mps.nil(w:Wv)(A:Oa):Mps w A []:=⟨[],rfl,Sl.nil _ _,fun _ hi=>absurd hi (Nat.not_lt_zero _)⟩
theorem Mps.at{w:Wv}{A:Oa}{ms:List Mp}(h:Mps w A ms){m:Nat}(hm:m<ms.length):
  ∃b o,A=Z ⟨b,o,N⟩/\b<w.heap.size/\∀i,(hi:i<ms.length)->∃C c,w.cell? ⟨b,o+i*3,N⟩=Z (I J ms[i].frm)/\w.cell? ⟨b,o+i*3+1,N⟩=Z (H C ms[i].toq.length c)/\w.cell? ⟨b,o+i*3+2,N⟩=Z (.string ms[i].tag)/\ms[i].toq.length<=c/\aB w C ms[i].toq:=by
 obtain⟨vs,h1,h2,h3⟩:=h;obtain⟨b,o,rfl,hb,hc⟩:=dN.at 3 (fun _=>rfl) (by omega) h2 (m:=m) (by rw[List.length_zip];omega);refine⟨b,o,rfl,hb,fun i hi=>?_⟩;obtain⟨C,c,e1,e2,e3⟩:=h3 i hi (by omega);have hz:i<(ms.zip vs).length:=by rw[List.length_zip];omega
 have hg:(ms.zip vs)[i]=(ms[i],vs[i]'(by omega)):=List.getElem_zip;refine⟨C,c,?_,?_,?_,e2,e3⟩
 ·have:=hc i hz 0 (I J ms[i].frm) (by rw[hg];rfl);exact this
 ·have:=hc i hz 1 (H C ms[i].toq.length c) (by rw[hg,e1];rfl);exact this
 have:=hc i hz 2 (.string ms[i].tag) (by rw[hg];rfl);exact this
structure lM(ms:List Mp):Prop where
 n:ms.length<=1048576
 e:∀i,(hi:i<ms.length)->ms[i].toq.length<=1048576/\ms[i].tag.size<=9223372036854775807
def bl(a b:ByteArray):Bool:=Op.bytesLess a.toList b.toList
def lQ(a b:ByteArray):Int:=if bl a b=true then -1 else if bl b a=true then 1 else 0
def jW(a b:Mp):Int:=if a.frm<b.frm then -1 else if b.frm<a.frm then 1 else lQ a.tag b.tag
def bG(m:Mp):Int×ByteArray:=(m.frm,m.tag)
def cQ(m:Mp):Bool:=!inR 0 1114111 m.frm||m.toq.any (fun z=>!inR 0 1114111 z)
def eB(m:Mp):Bool:=decide (¬m.tag.size=0)&&!bW m.tag
def eV:List Mp->Bool
 |a::b::r=>decide (jW a b<0)&&eV (b::r)
 |_=>true
def dB(ms:List Mp):Int:=if ms.any cQ then 1 else if ms.any (fun m=>decide (64<m.toq.length))then 2 else if ms.any eB then 6 else 0
def dI(ms:List Mp):Int:=if dB ms≠0 then dB ms else if eV ms then 0 else if(ms.map bG).Nodup then 4 else 5
theorem uN:∀a:List UInt8,Op.bytesLess a a=false
 | []=>rfl
 |x::r=>by simp[Op.bytesLess,uN r]
theorem uO:∀{a b:List UInt8},Op.bytesLess a b=false->Op.bytesLess b a=false->a=b
 | [],[],_,_=>rfl
 | [],_::_,h,_=>by simp[Op.bytesLess]at h
 |_::_,[],_,h=>by simp[Op.bytesLess]at h
 |x::a,y::b,h1,h2=>by
  simp only[Op.bytesLess,Bool.or_eq_false_iff,Bool.and_eq_false_iff,decide_eq_false_iff_not,beq_eq_false_iff_ne]at *;have e:x=y:=UInt8.le_antisymm (UInt8.not_lt.1 h2.1) (UInt8.not_lt.1 h1.1);subst e;have i1:Op.bytesLess a b=false:=by rcases h1.2 with h|h;exact absurd rfl h;exact h
  have i2:Op.bytesLess b a=false:=by rcases h2.2 with h|h;exact absurd rfl h;exact h
  rw[uO i1 i2]
theorem DW(a:ByteArray):bl a a=false:=uN _
theorem DX{a b:ByteArray}(h:bl a b=false)(h':bl b a=false):a=b:=zD (uO h h')
def jG(rs:List Rg)(c:Int):Bool:=inR 0 1114111 c&&rs.any (fun r=>inR r.lo r.hi c)
end
section
open Go.ChangeShapes Go.WideShapes Go.ChangeAt Go.RowKit
section
variable {H:Type}{enc:TypeId×Value->H}{w:Wv}{base:Nat}{spare:Nat->Bool}{held:Bool}{fuel:Nat}{cs:Lv}{x:DataW H×List MemPlace}
theorem mci:prog.cellsOf 3=1:=by kernel_rfl
theorem mcs:prog.cellsOf 9=1:=by kernel_rfl
theorem mcI:prog.cellsOf 33=1:=by kernel_rfl
theorem mcR:prog.cellsOf 24=1:=by kernel_rfl
theorem mcM:prog.cellsOf 23=1:=by kernel_rfl
theorem mcS:prog.cellsOf 26=1:=by kernel_rfl
theorem QB(h:DataW.trod enc prog w base spare held fuel 33 cs=Z x):
  ∃A len cap,∃l:Li,cs=[.slice A len cap]/\l.length=len/\len<=cap/\cap<=9223372036854775807/\aB w A l:=by
 obtain⟨A,len,cap,l,h1,h2,h3,h4,h5,_⟩:=iL (α:=Int) (fun z=>[I J z]) 1 (by omega) (fun _=>rfl) (fun _=>True) underlying33 mci (fun fuel cs x hl hx=>by
  obtain⟨z,hz,_,_⟩:=DataW.trod_int underlying3 hx
  exact⟨z,hz,trivial⟩) h
 refine⟨A,len,cap,l,h1,h2,h3,h4,?_⟩;unfold dN aE at h5;unfold aB;rw[show l.map (Value.int .i64)=l.flatMap (fun z=>[I J z]) by clear h2 h5;induction l<;>simp_all];exact h5
instance:Inhabited Rg:=⟨⟨0,0⟩⟩
theorem QF(h:DataW.trod enc prog w base spare held fuel 24 cs=Z x):
  ∃A len cap,∃l:List Rg,cs=[.slice A len cap]/\l.length=len/\len<=cap/\cap<=9223372036854775807/\Rgs w A l/\∀_∈l,True:=by
 refine iL (α:=Rg) Rg.cells 2 (by omega) (fun _=>rfl) (fun _=>True) underlying24 (by kernel_rfl) (fun fuel cs x hl hx=>?_) h;obtain⟨xs,k,hk,hxy,_,hxl,hfs⟩:=DataW.trod_struct underlying179 hx;match xs,hxl,cs,hl with
 | [y0,y1],_,[v0,v1],_=>
  have g0:=hfs 0 _ rfl;have g1:=hfs 1 _ rfl;simp[mci]at g0 g1;obtain⟨z0,e0,_,_⟩:=DataW.trod_int underlying3 g0;obtain⟨z1,e1,_,_⟩:=DataW.trod_int underlying3 g1;simp at e0 e1;subst e0;subst e1;exact⟨⟨z0,z1⟩,rfl,trivial⟩
theorem QG(hcl:cs.length=1)(h:DataW.trod enc prog w base spare held fuel 26 cs=Z x):
  ∃A len cap,∃l:List Rg,cs=[.slice A len cap]/\l.length=len/\len<=cap/\cap<=9223372036854775807/\Rgs w A l:=by
 obtain⟨xs,k,hk,hxy,_,hxl,hfs⟩:=DataW.trod_struct underlying26 h;match xs,hxl,cs,hcl with
 | [y0],_,[v0],_=>
  have g0:=hfs 0 _ rfl;simp[mcR]at g0;obtain⟨A,len,cap,l,h1,h2,h3,h4,h5,_⟩:=QF g0;exact⟨A,len,cap,l,h1,h2,h3,h4,h5⟩
def MpR(w:Wv)(p:Mp×Value):Prop:=∃C c,p.2=.slice C p.1.toq.length c/\p.1.toq.length<=c/\c<=9223372036854775807/\aB w C p.1.toq/\p.1.tag.size<=9223372036854775807
theorem QD(h:DataW.trod enc prog w base spare held fuel 23 cs=Z x):
  ∃A len cap,∃l:List Mp,cs=[.slice A len cap]/\l.length=len/\len<=cap/\cap<=9223372036854775807/\Mps w A l/\∀i,(hi:i<l.length)->l[i].toq.length<=9223372036854775807/\l[i].tag.size<=9223372036854775807:=by
 have:Inhabited (Mp×Value):=⟨(⟨0,[],.empty⟩,.bool false)⟩
 obtain⟨A,len,cap,l,h1,h2,h3,h4,h5,h6⟩:=iL (α:=Mp×Value) mpC 3 (by omega) (fun _=>rfl) (MpR w) underlying23 (by kernel_rfl) (fun fuel cs x hl hx=>by
  obtain⟨xs,k,hk,hxy,_,hxl,hfs⟩:=DataW.trod_struct underlying154 hx
  match xs,hxl,cs,hl with
  | [y0,y1,y2],_,[v0,v1,v2],_=>
   have g0:=hfs 0 _ rfl
   have g1:=hfs 1 _ rfl
   have g2:=hfs 2 _ rfl
   simp[mci,mcI,mcs]at g0 g1 g2
   obtain⟨z0,e0,_,_⟩:=DataW.trod_int underlying3 g0
   obtain⟨A1,n1,c1,l1,e1,f1,q1,r1,i1⟩:=QB g1
   obtain⟨z2,e2,_,hs⟩:=DataW.trod_string underlying9 g2
   simp at e0 e1 e2
   subst e0;subst e1;subst e2;subst f1
   exact⟨(⟨z0,l1,z2⟩,.slice A1 l1.length c1),rfl,A1,c1,rfl,q1,r1,i1,by unfold maxLen at hs;show z2.size<=_;omega⟩) h
 have hz:(l.map Prod.fst).zip (l.map Prod.snd)=l:=(List.zip_of_prod rfl rfl).symm;refine⟨A,len,cap,l.map Prod.fst,h1,by simpa using h2,h3,h4,⟨l.map Prod.snd,by simp,by rw[hz];exact h5,fun i hi hv=>?_⟩,fun i hi=>?_⟩
 ·have hl:i<l.length:=by simpa using hi
  obtain⟨C,c,e1,e2,_,e4,_⟩:=h6 l[i] (List.getElem_mem hl);exact⟨C,c,by simpa using e1,by simpa using e2,by simpa using e4⟩
 have hl:i<l.length:=by simpa using hi
 obtain⟨C,c,e1,e2,e3,_,e5⟩:=h6 l[i] (List.getElem_mem hl);simp only[List.getElem_map];exact⟨by omega,e5⟩
end
end
end Go.Proofs.YtkhmjidaeliccaaGreatDoor
