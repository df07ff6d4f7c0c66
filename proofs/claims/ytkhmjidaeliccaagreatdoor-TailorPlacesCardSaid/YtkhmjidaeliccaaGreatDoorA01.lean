/- Texts that are merged into one file: Words, Str, Coll, Element, Map, OSpans, OCheckPlain, HgPlain. -/
import Derived.WalkKit
import Derived.WalkLawsBesides
import Derived.Lib.Hide
import Derived.Laws.StructEq
import Derived.Maps.AppendAt
import Derived.Test.YtkhmjidaeliccaaGreatDoorProg
import Derived.WalkSpells
import Derived.Deep.QuietTactic
import Derived.BigQuiet
set_option maxRecDepth 100000
set_option maxHeartbeats 51200000
namespace Go.Proofs.YtkhmjidaeliccaaGreatDoor
open Go.RowKit
def Sl (w:World) (A:Option Addr) (cs:List Value):Prop:=
 cs≠[]→∃b o,A=some ⟨b,o,none⟩∧∀j u,cs[j]?=some u→w.cell? ⟨b,o+j,none⟩=some u
theorem Sl.nil (w:World) (A:Option Addr):Sl w A []:=fun h=>absurd rfl h
theorem Sl.at {w:World} {A:Option Addr} {cs:List Value} (h:Sl w A cs) {k:Nat} (hk:k < cs.length) :
  ∃b o,A=some ⟨b,o,none⟩∧∀j u,cs[j]?=some u→w.cell? ⟨b,o+j,none⟩=some u:=
 h (by rintro rfl;simp at hk)
theorem Sl.keep {w w':World} {A:Option Addr} {cs:List Value} (h:Sl w A cs) (hb:∀p:Addr,p.block < w.heap.size→w'.cell? p=w.cell? p):Sl w' A cs:=by
 intro hne
 obtain ⟨b,o,rfl,hc⟩:=h hne
 refine ⟨b,o,rfl,fun j u hu=>?_⟩
 have h1:=hc j u hu
 rw [hb _ (World.block_lt_of_cell? w _ h1)]
 exact h1
theorem Sl.below {w w':World} {A:Option Addr} {cs:List Value} (h:Sl w A cs) (hb:Below w.heap.size w w'):Sl w' A cs:=h.keep fun _ hp=>hb.cell hp
theorem Sl.drewN {w:World} {A:Option Addr} {cs:List Value} (h:Sl w A cs) (n:Nat):Sl (w.drewN n) A cs:=h
theorem Sl.drew {w:World} {A:Option Addr} {cs:List Value} (h:Sl w A cs):Sl w.drew A cs:=h
theorem Sl.alloc {w:World} {A:Option Addr} {cs:List Value} (h:Sl w A cs) (o:Obj):Sl (w.alloc o) A cs:=h.below ((Below.refl _ _).alloc (Nat.le_refl _) _)
theorem Sl.of_own {w:World} {base:Nat} {e:TypeId} {size n c:Nat} {A:Option Addr} {xs:List Value} (h:w.ownsRow base e size (.slice A n c) n xs):Sl w A xs:=by
 intro hne
 rcases h.2 with ⟨hv,rfl⟩ | ⟨g,cap,cur,hv,_⟩
 ·have:=h.1;simp at this;exact absurd this hne
 ·injection hv with hA;subst hA
  refine ⟨g,0,rfl,fun j u hu=>?_⟩
  have:=h.cells (g:=g) rfl j u hu
  unfold Addr.add at this
  split at this <;> simp_all
def Ints (w:World) (A:Option Addr) (zs:List Int):Prop:=Sl w A (zs.map (Value.int .i64))
theorem Ints.at {w:World} {A:Option Addr} {zs:List Int} (h:Ints w A zs) {k:Nat} (hk:k < zs.length) :
  ∃b o,A=some ⟨b,o,none⟩∧∀j,(hj:j < zs.length)→w.cell? ⟨b,o+j,none⟩=some (.int .i64 zs[j]):=by
 obtain ⟨b,o,hA,hc⟩:=Sl.at h (k:=k) (by simpa using hk)
 exact ⟨b,o,hA,fun j hj=>hc j _ (by simp [hj])⟩
theorem Sl.cut {w:World} {b o:Nat} {cs:List Value} (h:Sl w (some ⟨b,o,none⟩) cs) (k:Nat):Sl w (some ⟨b,o+k,none⟩) (cs.drop k):=by
 intro hne
 have hne':cs≠[]:=by rintro rfl;simp at hne
 obtain ⟨b',o',hA,hc⟩:=h hne'
 injection hA with hA
 injection hA with h1 h2
 subst h1;subst h2
 refine ⟨_,_,rfl,fun j u hu=>?_⟩
 rw [Nat.add_assoc]
 exact hc _ u (by rw [←hu,List.getElem?_drop])
theorem Ints.cut {w:World} {b o:Nat} {zs:List Int} (h:Ints w (some ⟨b,o,none⟩) zs) (k:Nat):Ints w (some ⟨b,o+k,none⟩) (zs.drop k):=by
 unfold Ints
 rw [List.map_drop]
 exact Sl.cut h k
theorem Ints.below {w w':World} {A:Option Addr} {zs:List Int} (h:Ints w A zs) (hb:Below w.heap.size w w'):Ints w' A zs:=Sl.below h hb
theorem Sl_new (w:World) (cs:List Value) (t:TypeId) {B:Nat} (h:B=w.heap.size):Sl (w.alloc (.cells cs.toArray t)) (some ⟨B,0,none⟩) cs:=by
 subst h
 intro _
 refine ⟨_,_,rfl,fun j u hu=>?_⟩
 rw [World.cell?_alloc_at _ _ _ _ rfl]
 simpa using hu
theorem Ints_new (w:World) (zs:List Int) (t:TypeId) {B:Nat} (h:B=w.heap.size):Ints (w.alloc (.cells (zs.map (Value.int .i64)).toArray t)) (some ⟨B,0,none⟩) zs:=Sl_new w _ t h
theorem below_of_drewN (w:World) (n:Nat):Below w.heap.size w (w.drewN n):=⟨rfl,rfl,rfl,Nat.le_refl _,fun _ _=>rfl⟩
def Qt (w w':World):Prop:=∃q,w'=w.drewN q
theorem Qt.refl (w:World):Qt w w:=⟨0,rfl⟩
theorem Qt.drewN {w w':World} (h:Qt w w') (n:Nat):Qt w (w'.drewN n):=by obtain ⟨q,rfl⟩:=h;exact ⟨q+n,World.drewN_drewN _ _ _⟩
theorem Qt.drew {w w':World} (h:Qt w w'):Qt w w'.drew:=h.drewN 1
theorem Qt.trans {a b c:World} (h:Qt a b) (k:Qt b c):Qt a c:=by obtain ⟨q,rfl⟩:=k;exact h.drewN q
theorem Qt.below {w w':World} (h:Qt w w'):Below w.heap.size w w':=by obtain ⟨q,rfl⟩:=h;exact below_of_drewN w q
theorem ret_int {k:IntKind} {a b:Int} (h:a=b):Ending.returned (.int k a)=.returned (.int k b):=by rw [h]
theorem ret_bool {a b:Bool} (h:a=b):Ending.returned (.bool a)=.returned (.bool b):=by rw [h]
section
variable {P:Program} (w:World)
theorem run_part_int (e:TypeId) (k:IntKind) (hu:P.underlying e=some (.int k)) (xs:Array Value) (j:Nat) (v:Value) (hv:xs[j]?=some v):(part e xs j).run P w=.ok v w:=by
 simp [part,isAgg,run_underlying hu,hv]
theorem run_equalIn_array3 (d:Nat) (t e:TypeId) (k:IntKind) (i:TypeInfo) (ht:P.underlying t=some (.array 3 e)) (he:P.underlying e=some (.int k)) (hi:P.info? e=some i) (hs:i.size=1) (a b c a' b' c':Int) :
  (Op.equalIn (d+2) t (.agg #[.int k a,.int k b,.int k c]) (.agg #[.int k a',.int k b',.int k c'])).run P w=.ok (a==a'&&b==b'&&c==c') w:=by
 have e0:∀W,(Op.equalIn (d+1) e (.int k a) (.int k a')).run P W=.ok (a==a') W:=fun W=>run_equalIn_int W d e k k a a' he
 have e1:∀W,(Op.equalIn (d+1) e (.int k b) (.int k b')).run P W=.ok (b==b') W:=fun W=>run_equalIn_int W d e k k b b' he
 have e2:∀W,(Op.equalIn (d+1) e (.int k c) (.int k c')).run P W=.ok (c==c') W:=fun W=>run_equalIn_int W d e k k c c' he
 have p0:=fun (xs:Array Value) (v:Value)=>run_part_int (P:=P) w e k he xs 0 v
 have p1:=fun (xs:Array Value) (v:Value)=>run_part_int (P:=P) w e k he xs 1 v
 have p2:=fun (xs:Array Value) (v:Value)=>run_part_int (P:=P) w e k he xs 2 v
 rw [Op.equalIn]
 simp only [Sem.run_bind,run_underlying ht,Result.andThen_ok,sizeOf,typeInfo,Sem.run_pure]
 simp [Std.Legacy.Range.forIn_eq_forIn_range',List.range',e0,e1,e2,p0,p1,p2,hi,hs]
 by_cases h1:a=a' <;> by_cases h2:b=b' <;> by_cases h3:c=c' <;> simp [h1,h2,h3]
end
def cmpL:List Int→List Int→Int
 | [],[]=>0
 | [],_::_=>-1
 | _::_,[]=>1
 | a::asq,b::bs=>if a < b then -1 else if b < a then 1 else cmpL asq bs
theorem cmpL_eq_zero (xs ys:List Int):cmpL xs ys=0 ↔ xs=ys:=by
 induction xs generalizing ys with
 | nil=>cases ys <;> simp [cmpL]
 | cons a asq ih=>
  cases ys with
  | nil=>simp [cmpL]
  | cons b bs=>
   simp only [cmpL]
   split
   ·constructor
    ·intro h;omega
    ·intro h;injection h;omega
   ·split
    ·constructor
     ·intro h;omega
     ·intro h;injection h;omega
    ·rw [ih]
     constructor
     ·rintro rfl;congr 1;omega
     ·intro h;injection h
theorem cmpL_drop (xs ys:List Int) (k:Nat) (h1:k < xs.length) (h2:k < ys.length) :
  cmpL (xs.drop k) (ys.drop k)=if xs[k] < ys[k] then -1 else if ys[k] < xs[k] then 1 else cmpL (xs.drop (k+1)) (ys.drop (k+1)):=by
 rw [List.drop_eq_getElem_cons h1,List.drop_eq_getElem_cons h2,cmpL]
theorem cmpL_end (xs ys:List Int) (k:Nat) (h:k=xs.length∨k=ys.length) (h1:k≤xs.length) (h2:k≤ys.length) :
  cmpL (xs.drop k) (ys.drop k)=if xs.length < ys.length then -1 else if ys.length < xs.length then 1 else 0:=by
 by_cases e1:k=xs.length
 ·have:xs.drop k=[]:=by simp [e1]
  rw [this]
  by_cases e2:k=ys.length
  ·have:ys.drop k=[]:=by simp [e2]
   rw [this,if_neg (by omega),if_neg (by omega)];rfl
  ·rw [List.drop_eq_getElem_cons (show k < ys.length by omega),if_pos (by omega)];rfl
 ·have e2:k=ys.length:=by omega
  have:ys.drop k=[]:=by simp [e2]
  rw [this,List.drop_eq_getElem_cons (show k < xs.length by omega),if_neg (by omega),if_pos (by omega)];rfl
section
variable {P:Program} {w:World}
theorem own_form {base:Nat} {e:TypeId} {size n:Nat} {v:Value} {xs:List Value} (h:w.ownsRow base e size v n xs):∃A c,v=.slice A n c∧n≤c:=by
 rcases h.2 with ⟨rfl,rfl⟩ | ⟨g,cap,cur,rfl,_,_,hn,_⟩
 ·exact ⟨_,_,rfl,Nat.le_refl _⟩
 ·exact ⟨_,_,rfl,hn⟩
theorem own_below {base:Nat} {e:TypeId} {size n:Nat} {v:Value} {xs:List Value} {w':World} (h:w.ownsRow base e size v n xs) (hg:w.grownBy w' v.ownBlock) (hb:base≤w.heap.size):Below base w w':=
 (Below.refl _ _).grown hg hb fun k hk=>(h.lt k hk).1
theorem own_keep {base:Nat} {e:TypeId} {size n:Nat} {v:Value} {xs:List Value} {w':World} (h:w.ownsRow base e size v n xs) (hb:Below w.heap.size w w'):w'.ownsRow base e size v n xs:=
 h.kept (row:=none) ⟨hb.os,hb.tape,hb.output,hb.size,fun k hk _=>hb.block k hk⟩ (by cases hv:v.ownBlock <;> simp)
theorem own_new (cs:List Value) (e:TypeId) (size n base:Nat) {B:Nat} (hB:B=w.heap.size) (hl:cs.length=n*size) (hb:base≤w.heap.size) (hm:n≤9223372036854775807) :
  (w.alloc (.cells cs.toArray e)).ownsRow base e size (.slice (some ⟨B,0,none⟩) n n) n cs:=by
 subst hB
 refine ⟨hl,.inr ⟨w.heap.size,n,cs.toArray,rfl,hb,heap_alloc_new w _,Nat.le_refl _,by unfold maxLen;omega,by simpa using hl,?_⟩⟩
 simp [←hl]
theorem run_app (t ty e:TypeId) (z:Value) (size bytes:Nat) (ht:P.underlying t=some (.slice e))
  (hinfo:(P.info? e).map (fun i=>(i.zero,i.size,i.bytes))=some (some z,size,bytes)) (hzs:z.cells.size=size) (hsz:0 < size) (hby:0 < bytes)
  {base:Nat} {A:Option Addr} {n c:Nat} {xs:List Value} (hown:w.ownsRow base e size (.slice A n c) n xs)
  {A':Option Addr} {m c':Nat} {news:List Value} (hr:Sl w A' news) (hl:news.length=m*size) (h1:∀u ∈ news,u.oneCell'=true)
  (hlim:(n+m)*bytes≤140737488355328) (hbase:base≤w.heap.size) :
  ∃B k w',(Builtin.append_ #[t,t] ty #[.slice A n c,.slice A' m c']).run P w=.ok (.slice B (n+m) k) w'∧w'.ownsRow base e size (.slice B (n+m) k) (n+m) (xs++news)∧n+m≤k∧
   Below base w w'∧w.grownBy w' (Value.ownBlock (.slice A n c))∧(B=A∨B=some ⟨w.heap.size,0,none⟩):=by
 obtain ⟨i,hi,hz,hsize,hbytes⟩:=info_parts hinfo
 have h63:n+m≤maxLen:=by
  have:(n+m)*1≤(n+m)*bytes:=Nat.mul_le_mul_left _ hby
  unfold maxLen;omega
 rcases Nat.eq_zero_or_pos m with hm | hm
 ·subst hm
  have hn:news=[]:=List.eq_nil_of_length_eq_zero (by simpa using hl)
  subst hn
  obtain ⟨_,_,hv,hnc⟩:=own_form hown
  injection hv with _ _ hc
  subst hc
  refine ⟨A,c,w,?_,by simpa using hown,hnc,Below.refl _ _,⟨rfl,rfl,rfl,Nat.le_refl _,fun _ _ _=>rfl⟩,.inl rfl⟩
  rcases hown.2 with ⟨hv,_⟩ | ⟨g,cap,cur,hv,_,_,_⟩
  ·injection hv with hA hn hc
   subst hA;subst hn;subst hc
   cases A' <;> simp [Builtin.append_,run_underlying ht,sizeOf,typeInfo,hi,Builtin.lenOf,Builtin.firstCells,loadCells,loadCellsFrom]
  ·injection hv with hA hn hc
   subst hA;subst hc
   cases A' <;> simp [Builtin.append_,run_underlying ht,sizeOf,typeInfo,hi,Builtin.lenOf,Builtin.firstCells,loadCells,loadCellsFrom,hnc,storeCells]
 ·have hne:news≠[]:=by rintro rfl;rw [List.length_nil] at hl;have:=Nat.mul_pos hm hsz;omega
  obtain ⟨b,o,rfl,hc⟩:=hr hne
  have hnews:∀j u,news[j]?=some u→w.cell? ((⟨b,o,none⟩:Addr).add j)=some u:=by
   intro j u hu
   have:=hc j u hu
   unfold Addr.add
   split
   ·next h=>subst h;simpa using this
   ·exact this
  obtain ⟨v',w',hrun,h2,h3,_,h5⟩:=run_append_own_at (P:=P) w base t ty e i z size bytes ht hi hz hsize hbytes hzs hsz _ n xs hown ⟨b,o,none⟩ m c' news hl hnews h1 h63 hlim hbase
  obtain ⟨B,k,rfl,hk⟩:=own_form h2
  refine ⟨B,k,w',hrun,h2,hk,own_below hown h3 hbase,h3,?_⟩
  obtain ⟨g,cap,hv,_⟩:=(show ∃g cap,(Value.slice B (n+m) k)=.slice (some ⟨g,0,none⟩) (n+m) cap∧True by
   rcases h2.2 with ⟨_,h0⟩ | ⟨g,cap,cur,hv,_⟩
   ·omega
   ·exact ⟨g,cap,hv,trivial⟩)
  injection hv with hB
  subst hB
  rcases h5 with h5 | h5
  ·left
   rcases hown.2 with ⟨hv,_⟩ | ⟨g',cap',cur',hv,_⟩
   ·injection hv with hA;subst hA;simp [Value.ownBlock] at h5
   ·injection hv with hA;subst hA;simp [Value.ownBlock] at h5;rw [h5]
  ·right;simp [Value.ownBlock] at h5;rw [h5]
theorem wpList_app {ops:Array Oper} {rest:List Oper} {o:Oper} {a:Act} {Q:Exit→Act→World→Prop} (s x:Operand) (t e:TypeId) (z:Value) (size bytes:Nat)
  (hgd:o.guard=none) (ho:o.op=.call { callee:=.builtin .append,args:=#[s,x],argTypes:=#[t,t] }) (ht:P.underlying t=some (.slice e))
  (hinfo:(P.info? e).map (fun i=>(i.zero,i.size,i.bytes))=some (some z,size,bytes)) (hzs:z.cells.size=size) (hsz:0 < size) (hby:0 < bytes)
  {base:Nat} {A:Option Addr} {n c:Nat} {xs:List Value} (hs:a.eval s=.slice A n c) (hown:w.ownsRow base e size (.slice A n c) n xs)
  {A':Option Addr} {m c':Nat} {news:List Value} (hx:a.eval x=.slice A' m c') (hr:Sl w A' news) (hl:news.length=m*size) (h1:∀u ∈ news,u.oneCell'=true)
  (hlim:(n+m)*bytes≤140737488355328) (hbase:base≤w.heap.size)
  (h:∀B k w',w'.ownsRow base e size (.slice B (n+m) k) (n+m) (xs++news)→n+m≤k→Below base w w'→w.grownBy w' (Value.ownBlock (.slice A n c))→(B=A∨B=some ⟨w.heap.size,0,none⟩)→
   wpList P ops Q rest (a.put o.dst (.slice B (n+m) k)) w'):wpList P ops Q (o::rest) a w:=by
 refine wpList_plain hgd fun K hK=>?_
 obtain ⟨B,k,w',hrun,h2,h3,h4,h5,h6⟩:=run_app (P:=P) t o.type e z size bytes ht hinfo hzs hsz hby hown (c':=c') hr hl h1 hlim hbase
 unfold Oper.wp execOp
 simp only [ho,resolve,invoke,builtin,Sem.run_bind,Sem.run_pure,Result.andThen_ok,List.map_toArray,List.map_cons,List.map_nil,hs,hx,hrun]
 exact hK _ _ (h B k w' h2 h3 h4 h5 h6)
end
theorem oneCell_ints (zs:List Int):∀u ∈ zs.map (Value.int .i64),u.oneCell'=true:=by
 intro u hu
 obtain ⟨z,_,rfl⟩:=List.mem_map.1 hu
 rfl
end Go.Proofs.YtkhmjidaeliccaaGreatDoor
namespace Go.Proofs.YtkhmjidaeliccaaGreatDoor
open Go.RowKit
def nmc (n:Int):Prop:=(65≤n∧n≤90)∨(97≤n∧n≤122)∨(48≤n∧n≤57)∨n=95
instance (n:Int):Decidable (nmc n):=by unfold nmc;exact inferInstance
def nameOk (s:ByteArray):Bool:=s.data.toList.all (fun b=>decide (nmc (b.toNat:Int)))&&(decide (1≤s.size)&&decide (s.size≤32))
theorem str_len (s:ByteArray):s.toList.length=s.size:=by
 rw [ByteArray.toList_eq,Array.length_toList];rfl
theorem str_nil {s:ByteArray} (h:s.size=0):s.toList=[]:=by rw [←List.length_eq_zero_iff,str_len];exact h
theorem str_cons {s:ByteArray} (h:¬s.size=0):¬s.toList=[]:=by rw [←List.length_eq_zero_iff,str_len];exact h
theorem below_drewN {n:Nat} {a w:World} (h:Below n a w) (k:Nat):Below n a (w.drewN k):=⟨h.os,h.tape,h.output,h.size,h.block⟩
theorem str_inj {a b:ByteArray} (h:a.toList=b.toList):a=b:=by
 rw [ByteArray.toList_eq,ByteArray.toList_eq] at h
 cases a;cases b
 simp only [ByteArray.mk.injEq]
 exact Array.toList_inj.1 h
theorem str_eqF {a b:ByteArray} (h:¬a=b):(a.toList==b.toList)=false:=by
 rw [beq_eq_false_iff_ne]
 exact fun e=>h (str_inj e)
theorem nameOk_bad {s:ByteArray} {k:Nat} (hk:k < s.size) (h:¬nmc (s[k].toNat:Int)):nameOk s=false:=by
 unfold nameOk
 rw [Bool.and_eq_false_iff]
 left
 rw [List.all_eq_false]
 exact ⟨s[k],by rw [Array.mem_toList_iff];exact Array.getElem_mem _,by simpa using h⟩
theorem nameOk_all {s:ByteArray} (h:∀j,(hj:j < s.size)→nmc (s[j].toNat:Int)):nameOk s=(decide (1≤s.size)&&decide (s.size≤32)):=by
 unfold nameOk
 have:s.data.toList.all (fun b=>decide (nmc (b.toNat:Int)))=true:=by
  rw [List.all_eq_true]
  intro b hb
  obtain ⟨i,hi,rfl⟩:=List.getElem_of_mem hb
  have h1:=h i (by simpa using hi)
  have e:s.data.toList[i]=s[i]'(by simpa using hi):=by simp;rfl
  rw [e]
  simpa using h1
 rw [this,Bool.true_and]
theorem isName_any (s:ByteArray) (w:World) (hs:s.size≤9223372036854775807) :
  Calls Tryz.prog 128 #[.string s] w fun e w'=>e=.returned (.bool (nameOk s))∧w=w':=by
 go_enter Tryz.func128,Tryz.ntmps128
 go_wp2
 go_loop [3,4,7] (fun _ _ i=>∃k:Nat,k≤s.size∧i=.int .i64 k∧∀j,(hj:j < s.size)→j < k→nmc (s[j].toNat:Int)) (fun _ _ i=>s.size - (intOf i).toNat)
 case atStart=>exact ⟨0,Nat.zero_le _,rfl,fun j _ h=>by omega⟩
 case round=>
  obtain ⟨k,hk,rfl,hall⟩:=hrel
  have HA:=Lib.hid hall;clear hall
  by_cases hlt:k < s.size
  ·have HB:=Lib.hid (fun h=>nameOk_bad hlt h)
   have HN:=Lib.hid (fun (h:nmc (s[k].toNat:Int))=>show ∀j,(hj:j < s.size)→j < k+1→nmc (s[j].toNat:Int) from fun j hj hj2=>by
    by_cases e:j < k
    ·exact HA.out j hj e
    ·obtain rfl:j=k:=by omega
     exact h)
   have HD:=Lib.hid (show nmc (s[k].toNat:Int) ↔ ((65≤(s[k].toNat:Int)∧(s[k].toNat:Int)≤90)∨(97≤(s[k].toNat:Int)∧(s[k].toNat:Int)≤122)∨(48≤(s[k].toNat:Int)∧(s[k].toNat:Int)≤57)∨(s[k].toNat:Int)=95) from Iff.rfl)
   have hlt8:=s[k].toNat_lt
   obtain ⟨hc1,hc2⟩ | ⟨hc1,hc2⟩ | ⟨hc1,hc2⟩ | ⟨hc1,hc2⟩ | ⟨hc1,hc2⟩ | ⟨hc1,hc2⟩ | ⟨hc1,hc2⟩ | ⟨hc1,hc2⟩ | ⟨hc1,hc2⟩:(0≤(s[k].toNat:Int)∧(s[k].toNat:Int)≤47)∨(48≤(s[k].toNat:Int)∧(s[k].toNat:Int)≤57)∨(58≤(s[k].toNat:Int)∧(s[k].toNat:Int)≤64)∨(65≤(s[k].toNat:Int)∧(s[k].toNat:Int)≤90)∨(91≤(s[k].toNat:Int)∧(s[k].toNat:Int)≤94)∨(95≤(s[k].toNat:Int)∧(s[k].toNat:Int)≤95)∨(96≤(s[k].toNat:Int)∧(s[k].toNat:Int)≤96)∨(97≤(s[k].toNat:Int)∧(s[k].toNat:Int)≤122)∨(123≤(s[k].toNat:Int)∧(s[k].toNat:Int)≤255):=by omega
   ·have hd1:decide (65≤(s[k].toNat:Int))=false:=decide_eq_false (by omega)
    have hd2:decide (97≤(s[k].toNat:Int))=false:=decide_eq_false (by omega)
    have hd3:decide (48≤(s[k].toNat:Int))=false:=decide_eq_false (by omega)
    have hd4:decide ((s[k].toNat:Int)≤90)=true:=decide_eq_true (by omega)
    have hd5:decide ((s[k].toNat:Int)≤122)=true:=decide_eq_true (by omega)
    have hd6:decide ((s[k].toNat:Int)≤57)=true:=decide_eq_true (by omega)
    have hc3:((s[k].toNat:Int)==95)=false:=beq_eq_false_iff_ne.2 (by omega)
    have HY:=Lib.hid (HB.out (fun h=>by have h9:=HD.out.1 h;omega))
    go_wp2
    go_ret
    exact ⟨ret_bool HY.out.symm,rfl⟩
   ·have hd1:decide (65≤(s[k].toNat:Int))=false:=decide_eq_false (by omega)
    have hd2:decide (97≤(s[k].toNat:Int))=false:=decide_eq_false (by omega)
    have hd3:decide (48≤(s[k].toNat:Int))=true:=decide_eq_true (by omega)
    have hd4:decide ((s[k].toNat:Int)≤90)=true:=decide_eq_true (by omega)
    have hd5:decide ((s[k].toNat:Int)≤122)=true:=decide_eq_true (by omega)
    have hd6:decide ((s[k].toNat:Int)≤57)=true:=decide_eq_true (by omega)
    have hc3:((s[k].toNat:Int)==95)=false:=beq_eq_false_iff_ne.2 (by omega)
    have HY:=Lib.hid (HN.out (HD.out.2 (by omega)))
    go_wp2
    go_round
    case rel=>exact ⟨k+1,by omega,by go_num,HY.out⟩
    case measure=>simp [intOf];omega
   ·have hd1:decide (65≤(s[k].toNat:Int))=false:=decide_eq_false (by omega)
    have hd2:decide (97≤(s[k].toNat:Int))=false:=decide_eq_false (by omega)
    have hd3:decide (48≤(s[k].toNat:Int))=true:=decide_eq_true (by omega)
    have hd4:decide ((s[k].toNat:Int)≤90)=true:=decide_eq_true (by omega)
    have hd5:decide ((s[k].toNat:Int)≤122)=true:=decide_eq_true (by omega)
    have hd6:decide ((s[k].toNat:Int)≤57)=false:=decide_eq_false (by omega)
    have hc3:((s[k].toNat:Int)==95)=false:=beq_eq_false_iff_ne.2 (by omega)
    have HY:=Lib.hid (HB.out (fun h=>by have h9:=HD.out.1 h;omega))
    go_wp2
    go_ret
    exact ⟨ret_bool HY.out.symm,rfl⟩
   ·have hd1:decide (65≤(s[k].toNat:Int))=true:=decide_eq_true (by omega)
    have hd2:decide (97≤(s[k].toNat:Int))=false:=decide_eq_false (by omega)
    have hd3:decide (48≤(s[k].toNat:Int))=true:=decide_eq_true (by omega)
    have hd4:decide ((s[k].toNat:Int)≤90)=true:=decide_eq_true (by omega)
    have hd5:decide ((s[k].toNat:Int)≤122)=true:=decide_eq_true (by omega)
    have hd6:decide ((s[k].toNat:Int)≤57)=false:=decide_eq_false (by omega)
    have hc3:((s[k].toNat:Int)==95)=false:=beq_eq_false_iff_ne.2 (by omega)
    have HY:=Lib.hid (HN.out (HD.out.2 (by omega)))
    go_wp2
    go_round
    case rel=>exact ⟨k+1,by omega,by go_num,HY.out⟩
    case measure=>simp [intOf];omega
   ·have hd1:decide (65≤(s[k].toNat:Int))=true:=decide_eq_true (by omega)
    have hd2:decide (97≤(s[k].toNat:Int))=false:=decide_eq_false (by omega)
    have hd3:decide (48≤(s[k].toNat:Int))=true:=decide_eq_true (by omega)
    have hd4:decide ((s[k].toNat:Int)≤90)=false:=decide_eq_false (by omega)
    have hd5:decide ((s[k].toNat:Int)≤122)=true:=decide_eq_true (by omega)
    have hd6:decide ((s[k].toNat:Int)≤57)=false:=decide_eq_false (by omega)
    have hc3:((s[k].toNat:Int)==95)=false:=beq_eq_false_iff_ne.2 (by omega)
    have HY:=Lib.hid (HB.out (fun h=>by have h9:=HD.out.1 h;omega))
    go_wp2
    go_ret
    exact ⟨ret_bool HY.out.symm,rfl⟩
   ·have hd1:decide (65≤(s[k].toNat:Int))=true:=decide_eq_true (by omega)
    have hd2:decide (97≤(s[k].toNat:Int))=false:=decide_eq_false (by omega)
    have hd3:decide (48≤(s[k].toNat:Int))=true:=decide_eq_true (by omega)
    have hd4:decide ((s[k].toNat:Int)≤90)=false:=decide_eq_false (by omega)
    have hd5:decide ((s[k].toNat:Int)≤122)=true:=decide_eq_true (by omega)
    have hd6:decide ((s[k].toNat:Int)≤57)=false:=decide_eq_false (by omega)
    have hc3:((s[k].toNat:Int)==95)=true:=beq_iff_eq.2 (by omega)
    have HY:=Lib.hid (HN.out (HD.out.2 (by omega)))
    go_wp2
    go_round
    case rel=>exact ⟨k+1,by omega,by go_num,HY.out⟩
    case measure=>simp [intOf];omega
   ·have hd1:decide (65≤(s[k].toNat:Int))=true:=decide_eq_true (by omega)
    have hd2:decide (97≤(s[k].toNat:Int))=false:=decide_eq_false (by omega)
    have hd3:decide (48≤(s[k].toNat:Int))=true:=decide_eq_true (by omega)
    have hd4:decide ((s[k].toNat:Int)≤90)=false:=decide_eq_false (by omega)
    have hd5:decide ((s[k].toNat:Int)≤122)=true:=decide_eq_true (by omega)
    have hd6:decide ((s[k].toNat:Int)≤57)=false:=decide_eq_false (by omega)
    have hc3:((s[k].toNat:Int)==95)=false:=beq_eq_false_iff_ne.2 (by omega)
    have HY:=Lib.hid (HB.out (fun h=>by have h9:=HD.out.1 h;omega))
    go_wp2
    go_ret
    exact ⟨ret_bool HY.out.symm,rfl⟩
   ·have hd1:decide (65≤(s[k].toNat:Int))=true:=decide_eq_true (by omega)
    have hd2:decide (97≤(s[k].toNat:Int))=true:=decide_eq_true (by omega)
    have hd3:decide (48≤(s[k].toNat:Int))=true:=decide_eq_true (by omega)
    have hd4:decide ((s[k].toNat:Int)≤90)=false:=decide_eq_false (by omega)
    have hd5:decide ((s[k].toNat:Int)≤122)=true:=decide_eq_true (by omega)
    have hd6:decide ((s[k].toNat:Int)≤57)=false:=decide_eq_false (by omega)
    have hc3:((s[k].toNat:Int)==95)=false:=beq_eq_false_iff_ne.2 (by omega)
    have HY:=Lib.hid (HN.out (HD.out.2 (by omega)))
    go_wp2
    go_round
    case rel=>exact ⟨k+1,by omega,by go_num,HY.out⟩
    case measure=>simp [intOf];omega
   ·have hd1:decide (65≤(s[k].toNat:Int))=true:=decide_eq_true (by omega)
    have hd2:decide (97≤(s[k].toNat:Int))=true:=decide_eq_true (by omega)
    have hd3:decide (48≤(s[k].toNat:Int))=true:=decide_eq_true (by omega)
    have hd4:decide ((s[k].toNat:Int)≤90)=false:=decide_eq_false (by omega)
    have hd5:decide ((s[k].toNat:Int)≤122)=false:=decide_eq_false (by omega)
    have hd6:decide ((s[k].toNat:Int)≤57)=false:=decide_eq_false (by omega)
    have hc3:((s[k].toNat:Int)==95)=false:=beq_eq_false_iff_ne.2 (by omega)
    have HY:=Lib.hid (HB.out (fun h=>by have h9:=HD.out.1 h;omega))
    go_wp2
    go_ret
    exact ⟨ret_bool HY.out.symm,rfl⟩
  ·have HF:=Lib.hid (nameOk_all (fun j hj=>HA.out j hj (by omega)))
   by_cases h1:s.size=0
   ·have h0:s.toList=[]:=str_nil h1
    have e1:=Lib.hid h1
    have hz:s.size < 1:=by omega
    clear h1
    go_wp2
    go_ret
    exact ⟨ret_bool (by rw [HF.out,e1.out];rfl),rfl⟩
   ·have h0:¬s.toList=[]:=str_cons h1
    have h0':s.toList.isEmpty=false:=by simpa using h0
    by_cases h2:s.size≤32
    ·go_wp2
     go_ret
     exact ⟨ret_bool (by rw [HF.out,decide_eq_true (show 1≤s.size by omega)];first | (rw [decide_eq_true (show s.size≤32 by omega)];simp;done) | (rw [decide_eq_false (show ¬s.size≤32 by omega)];simp;done) | (simp;omega)),rfl⟩
    ·go_wp2
     go_ret
     exact ⟨ret_bool (by rw [HF.out,decide_eq_true (show 1≤s.size by omega)];first | (rw [decide_eq_true (show s.size≤32 by omega)];simp;done) | (rw [decide_eq_false (show ¬s.size≤32 by omega)];simp;done) | (simp;omega)),rfl⟩
end Go.Proofs.YtkhmjidaeliccaaGreatDoor
namespace Go.Proofs.YtkhmjidaeliccaaGreatDoor
open Go.RowKit
structure Grp where
 name:ByteArray
 lo:Int
 hi:Int
 deriving DecidableEq
structure Elt where
 p:Int
 s:Int
 t:Int
 v:Bool
 deriving DecidableEq
structure Ent where
 codes:List Int
 elems:List Elt
 deriving DecidableEq
structure Col where
 ents:List Ent
 grps:List Grp
 base:Int
 second:Int
 third:Int
def Grp.cells (g:Grp):List Value:=[.string g.name,.int .i64 g.lo,.int .i64 g.hi]
def Elt.cells (e:Elt):List Value:=[.int .i64 e.p,.int .i64 e.s,.int .i64 e.t,.bool e.v]
section
variable {α:Type} (enc:α→List Value)
def flatK (xs:List α):List Value:=xs.flatMap enc
theorem flatK_len (k:Nat) (hk:∀x,(enc x).length=k) (xs:List α):(flatK enc xs).length=xs.length*k:=by
 induction xs with
 | nil=>simp [flatK]
 | cons x xs ih=>simp only [flatK,List.flatMap_cons,List.length_append,List.length_cons,hk] at *;rw [ih,Nat.add_mul,Nat.one_mul,Nat.add_comm]
theorem flatK_get (k:Nat) (hk:∀x,(enc x).length=k) (xs:List α) (i j:Nat) (hi:i < xs.length) (hj:j < k):(flatK enc xs)[i*k+j]?=(enc xs[i])[j]?:=by
 induction xs generalizing i with
 | nil=>simp at hi
 | cons x xs ih=>
  cases i with
  | zero=>
   simp only [flatK,List.flatMap_cons,Nat.zero_mul,Nat.zero_add,List.getElem_cons_zero]
   rw [List.getElem?_append_left (by rw [hk];exact hj)]
  | succ i=>
   simp only [flatK,List.flatMap_cons,List.getElem_cons_succ]
   rw [List.getElem?_append_right (by rw [hk,Nat.add_mul];omega),hk,show (i+1)*k+j - k=i*k+j by rw [Nat.add_mul,Nat.one_mul];omega]
   exact ih i (by simpa using hi)
theorem flatK_append (xs ys:List α):flatK enc (xs++ys)=flatK enc xs++flatK enc ys:=by simp [flatK]
end
def Recs {α:Type} (enc:α→List Value) (w:World) (A:Option Addr) (xs:List α):Prop:=Sl w A (flatK enc xs)
theorem Recs.below {α:Type} {enc:α→List Value} {w w':World} {A:Option Addr} {xs:List α} (h:Recs enc w A xs) (hb:Below w.heap.size w w'):Recs enc w' A xs:=Sl.below h hb
theorem Recs.at {α:Type} {enc:α→List Value} {w:World} {A:Option Addr} {xs:List α} (k:Nat) (hk:∀x,(enc x).length=k) (k0:0 < k) (h:Recs enc w A xs) {m:Nat} (hm:m < xs.length) :
  ∃b o,A=some ⟨b,o,none⟩∧b < w.heap.size∧∀i,(hi:i < xs.length)→∀j u,(enc xs[i])[j]?=some u→w.cell? ⟨b,o+(i*k+j),none⟩=some u:=by
 have hget:∀i,(hi:i < xs.length)→∀j u,(enc xs[i])[j]?=some u→(flatK enc xs)[i*k+j]?=some u:=by
  intro i hi j u hu
  have hj:j < k:=by have:=(List.getElem?_eq_some_iff.1 hu).1;rw [hk] at this;exact this
  rw [flatK_get enc k hk xs i j hi hj]
  exact hu
 have hlen:m*k < (flatK enc xs).length:=by
  rw [flatK_len enc k hk]
  exact Nat.mul_lt_mul_of_pos_right hm k0
 obtain ⟨b,o,rfl,hc⟩:=Sl.at h hlen
 have h0:0 < (enc xs[m]).length:=by rw [hk];exact k0
 refine ⟨b,o,rfl,World.block_lt_of_cell? w _ (hc _ _ (hget m hm 0 _ (List.getElem?_eq_getElem h0))),fun i hi j u hu=>hc _ _ (hget i hi j u hu)⟩
def Grps (w:World) (A:Option Addr) (gs:List Grp):Prop:=Recs Grp.cells w A gs
theorem Grps.below {w w':World} {A:Option Addr} {gs:List Grp} (h:Grps w A gs) (hb:Below w.heap.size w w'):Grps w' A gs:=Recs.below h hb
theorem Grps.at {w:World} {A:Option Addr} {gs:List Grp} (h:Grps w A gs) {m:Nat} (hm:m < gs.length) :
  ∃b o,A=some ⟨b,o,none⟩∧b < w.heap.size∧∀i,(hi:i < gs.length)→w.cell? ⟨b,o+i*3,none⟩=some (.string gs[i].name)∧w.cell? ⟨b,o+i*3+1,none⟩=some (.int .i64 gs[i].lo)∧w.cell? ⟨b,o+i*3+2,none⟩=some (.int .i64 gs[i].hi):=by
 obtain ⟨b,o,rfl,hb,hc⟩:=Recs.at 3 (fun _=>rfl) (by omega) h hm
 exact ⟨b,o,rfl,hb,fun i hi=>⟨hc i hi 0 _ rfl,hc i hi 1 _ rfl,hc i hi 2 _ rfl⟩⟩
def Elts (w:World) (A:Option Addr) (es:List Elt):Prop:=Recs Elt.cells w A es
theorem Elts.below {w w':World} {A:Option Addr} {es:List Elt} (h:Elts w A es) (hb:Below w.heap.size w w'):Elts w' A es:=Recs.below h hb
theorem Elts.at {w:World} {A:Option Addr} {es:List Elt} (h:Elts w A es) {m:Nat} (hm:m < es.length) :
  ∃b o,A=some ⟨b,o,none⟩∧b < w.heap.size∧∀i,(hi:i < es.length)→w.cell? ⟨b,o+i*4,none⟩=some (.int .i64 es[i].p)∧w.cell? ⟨b,o+i*4+1,none⟩=some (.int .i64 es[i].s)∧w.cell? ⟨b,o+i*4+2,none⟩=some (.int .i64 es[i].t)∧w.cell? ⟨b,o+i*4+3,none⟩=some (.bool es[i].v):=by
 obtain ⟨b,o,rfl,hb,hc⟩:=Recs.at 4 (fun _=>rfl) (by omega) h hm
 exact ⟨b,o,rfl,hb,fun i hi=>⟨hc i hi 0 _ rfl,hc i hi 1 _ rfl,hc i hi 2 _ rfl,hc i hi 3 _ rfl⟩⟩
structure EntV (w:World) (v:Value × Value) (x:Ent):Prop where
 ex:∃A c B d,v=(.slice A x.codes.length c,.slice B x.elems.length d)∧Ints w A x.codes∧Elts w B x.elems
theorem EntV.below {w w':World} {v:Value × Value} {x:Ent} (h:EntV w v x) (hb:Below w.heap.size w w'):EntV w' v x:=by
 obtain ⟨A,c,B,d,hv,h1,h2⟩:=h.ex
 exact ⟨A,c,B,d,hv,h1.below hb,h2.below hb⟩
def Ents (w:World) (A:Option Addr) (xs:List Ent):Prop:=
 ∃vs:List (Value × Value),vs.length=xs.length∧Recs (fun v=>[v.1,v.2]) w A vs∧∀i,(hi:i < xs.length)→(hv:i < vs.length)→EntV w vs[i] xs[i]
theorem Ents.below {w w':World} {A:Option Addr} {xs:List Ent} (h:Ents w A xs) (hb:Below w.heap.size w w'):Ents w' A xs:=by
 obtain ⟨vs,h1,h2,h3⟩:=h
 exact ⟨vs,h1,h2.below hb,fun i hi hv=>(h3 i hi hv).below hb⟩
theorem Ents.at {w:World} {A:Option Addr} {xs:List Ent} (h:Ents w A xs) {m:Nat} (hm:m < xs.length) :
  ∃b o,A=some ⟨b,o,none⟩∧b < w.heap.size∧∀i,(hi:i < xs.length)→∃C c E d,w.cell? ⟨b,o+i*2,none⟩=some (.slice C xs[i].codes.length c)∧w.cell? ⟨b,o+i*2+1,none⟩=some (.slice E xs[i].elems.length d)∧Ints w C xs[i].codes∧Elts w E xs[i].elems:=by
 obtain ⟨vs,h1,h2,h3⟩:=h
 obtain ⟨b,o,rfl,hb,hc⟩:=Recs.at 2 (fun _=>rfl) (by omega) h2 (m:=m) (by omega)
 refine ⟨b,o,rfl,hb,fun i hi=>?_⟩
 obtain ⟨C,c,E,d,hv,e1,e2⟩:=(h3 i hi (by omega)).ex
 refine ⟨C,c,E,d,?_,?_,e1,e2⟩
 ·have:=hc i (by omega) 0 vs[i].1 rfl;rw [hv] at this;exact this
 ·have:=hc i (by omega) 1 vs[i].2 rfl;rw [hv] at this;exact this
def colV (A:Option Addr) (n a:Nat) (B:Option Addr) (m b:Nat) (c:Col):Value:=.agg #[.slice A n a,.slice B m b,.int .i64 c.base,.int .i64 c.second,.int .i64 c.third]
structure ColAt (w:World) (A:Option Addr) (n:Nat) (B:Option Addr) (m:Nat) (c:Col):Prop where
 ents:Ents w A c.ents
 grps:Grps w B c.grps
 hn:c.ents.length=n
 hm:c.grps.length=m
 hs:∀g ∈ c.grps,g.name.size≤9223372036854775807
theorem ColAt.below {w w':World} {A:Option Addr} {n:Nat} {B:Option Addr} {m:Nat} {c:Col} (h:ColAt w A n B m c) (hb:Below w.heap.size w w'):ColAt w' A n B m c:=⟨h.ents.below hb,h.grps.below hb,h.hn,h.hm,h.hs⟩
def inR (lo hi n:Int):Bool:=decide (lo≤n)&&decide (n≤hi)
theorem inR_true {lo hi n:Int} (h1:lo≤n) (h2:n≤hi):inR lo hi n=true:=by simp [inR,h1,h2]
theorem inR_lo {lo hi n:Int} (h:n < lo):inR lo hi n=false:=by simp [inR];omega
theorem inR_hi {lo hi n:Int} (h:hi < n):inR lo hi n=false:=by simp [inR];omega
theorem inR_iff {lo hi n:Int}:inR lo hi n=true ↔ lo≤n∧n≤hi:=by simp [inR]
theorem inR_false {lo hi n:Int}:inR lo hi n=false ↔ n < lo∨hi < n:=by simp [inR];omega
def eltErr (e:Elt):Int:=
 if e.p < 0∨65535 < e.p∨e.s < 0∨65535 < e.s∨e.t < 0∨65535 < e.t then 1
 else if (e.p≠0∧(e.s=0∨e.t=0))∨(e.s≠0∧e.t=0)∨(e.v=true∧e.p=0) then 11 else 0
def firstErr:List Int→Int
 | []=>0
 | x::r=>if x=0 then firstErr r else x
def entErr1 (base:Int) (x:Ent):Int:=
 if x.codes.length < 1∨8 < x.codes.length∨16 < x.elems.length then 2
 else if x.codes.any (fun c=>decide (c < 0∨1114111 < c)) then 1
 else if firstErr (x.elems.map eltErr)≠0 then firstErr (x.elems.map eltErr)
 else if x.elems.any (fun e=>decide (base≤e.p)) then 1 else 0
def entsErr (base:Int):List Ent→Option Ent→Int
 | [],_=>0
 | x::r,prev=>if entErr1 base x≠0 then entErr1 base x else match prev with
  | none=>entsErr base r (some x)
  | some y=>if 0≤cmpL y.codes x.codes then 4 else entsErr base r (some x)
def gap:List Grp→Bool
 | g::h::r=>decide (h.lo≠g.hi+1) || gap (h::r)
 | _=>false
def badG (base:Int) (g:Grp):Prop:=g.lo < 1∨g.hi < g.lo∨base≤g.hi
instance (base:Int) (g:Grp):Decidable (badG base g):=by unfold badG;exact inferInstance
def grpErr (base:Int) (gs:List Grp):Int:=
 if gs.any (fun g=>!nameOk g.name) then 6
 else if ¬(gs.map Grp.name).Nodup then 5
 else if gs.any (fun g=>decide (badG base g)) then 1
 else if gap gs then 4 else 0
def colErr (c:Col):Int:=
 if c.base < 1∨65502 < c.base∨inR 1 65535 c.second=false∨inR 1 65535 c.third=false then 1
 else if grpErr c.base c.grps≠0 then grpErr c.base c.grps
 else entsErr c.base c.ents none
theorem anyT {α:Type} {p:α→Bool} {xs:List α} {k:Nat} (hk:k < xs.length) (h:p xs[k]=true):xs.any p=true:=List.any_eq_true.2 ⟨xs[k],List.getElem_mem hk,h⟩
theorem anyF {α:Type} {p:α→Bool} {xs:List α} (h:∀t,(ht:t < xs.length)→p xs[t]=false):xs.any p=false:=by
 rw [List.any_eq_false]
 intro x hx
 obtain ⟨i,hi,rfl⟩:=List.getElem_of_mem hx
 rw [h i hi];simp
theorem gap_true {gs:List Grp} {k:Nat} (hk:k+1 < gs.length) (h:gs[k+1].lo≠gs[k].hi+1):gap gs=true:=by
 induction gs generalizing k with
 | nil=>simp at hk
 | cons a r ih=>
  cases r with
  | nil=>simp at hk
  | cons b r=>
   cases k with
   | zero=>simp only [List.getElem_cons_zero,List.getElem_cons_succ] at h;simp [gap,h]
   | succ k=>
    simp only [gap,Bool.or_eq_true]
    right
    exact ih (k:=k) (by simpa using hk) (by simpa using h)
theorem gap_false {gs:List Grp} (h:∀t,(ht:t+1 < gs.length)→gs[t+1].lo=gs[t].hi+1):gap gs=false:=by
 induction gs with
 | nil=>rfl
 | cons a r ih=>
  cases r with
  | nil=>rfl
  | cons b r=>
   have h0:=h 0 (by simp)
   simp only [List.getElem_cons_zero,List.getElem_cons_succ] at h0
   simp only [gap,Bool.or_eq_false_iff]
   refine ⟨by simpa using h0,ih fun t ht=>?_⟩
   have:=h (t+1) (by simpa using ht)
   simpa using this
section
variable {base:Int} {gs:List Grp}
theorem grp6 {k:Nat} (hk:k < gs.length) (h:nameOk gs[k].name=false):grpErr base gs=6:=by
 unfold grpErr;rw [if_pos (anyT hk (by simp [h]))]
theorem grp_names (h:∀t,(ht:t < gs.length)→nameOk gs[t].name=true):gs.any (fun g=>!nameOk g.name)=false:=anyF fun t ht=>by simp [h t ht]
theorem grp5 (h6:∀t,(ht:t < gs.length)→nameOk gs[t].name=true) (h:¬(gs.map Grp.name).Nodup):grpErr base gs=5:=by
 unfold grpErr;rw [if_neg (by rw [grp_names h6];simp),if_pos h]
theorem grp1 (h6:∀t,(ht:t < gs.length)→nameOk gs[t].name=true) (h5:(gs.map Grp.name).Nodup) {k:Nat} (hk:k < gs.length) (h:badG base gs[k]):grpErr base gs=1:=by
 unfold grpErr;rw [if_neg (by rw [grp_names h6];simp),if_neg (by simpa using h5),if_pos (anyT hk (by simpa using h))]
theorem grp4 (h6:∀t,(ht:t < gs.length)→nameOk gs[t].name=true) (h5:(gs.map Grp.name).Nodup) (h1:∀t,(ht:t < gs.length)→¬badG base gs[t]) {k:Nat} (hk:k+1 < gs.length) (h:gs[k+1].lo≠gs[k].hi+1):grpErr base gs=4:=by
 unfold grpErr;rw [if_neg (by rw [grp_names h6];simp),if_neg (by simpa using h5),if_neg (by rw [anyF fun t ht=>by simpa using h1 t ht];simp),if_pos (gap_true hk h)]
theorem grp0 (h6:∀t,(ht:t < gs.length)→nameOk gs[t].name=true) (h5:(gs.map Grp.name).Nodup) (h1:∀t,(ht:t < gs.length)→¬badG base gs[t]) (h:∀t,(ht:t+1 < gs.length)→gs[t+1].lo=gs[t].hi+1):grpErr base gs=0:=by
 unfold grpErr;rw [if_neg (by rw [grp_names h6];simp),if_neg (by simpa using h5),if_neg (by rw [anyF fun t ht=>by simpa using h1 t ht];simp),if_neg (by rw [gap_false h];simp)]
theorem all_up {α:Type} {xs:List α} {P:α→Prop} {i:Nat} (hlt:i < xs.length) (h:∀t,(ht:t < xs.length)→t < i→P xs[t]) (hi:P xs[i]):∀t,(ht:t < xs.length)→t < i+1→P xs[t]:=by
 intro t ht g
 by_cases e:t < i
 ·exact h t ht e
 ·obtain rfl:t=i:=by omega
  exact hi
def nms (gs:List Grp) (k:Nat):List ByteArray:=(gs.take k).map Grp.name
theorem nms_succ {k:Nat} (hk:k < gs.length):nms gs (k+1)=nms gs k++[gs[k].name]:=by
 unfold nms;rw [List.take_succ_eq_append_getElem hk,List.map_append];rfl
theorem nms_all:nms gs gs.length=gs.map Grp.name:=by unfold nms;rw [List.take_length]
theorem nms_dup {k:Nat} (hk:k < gs.length) (h:gs[k].name ∈ nms gs k):¬(gs.map Grp.name).Nodup:=by
 intro hn
 have hs:(nms gs (k+1)).Sublist (gs.map Grp.name):=by
  unfold nms;exact (List.take_sublist _ _).map _
 have h1:=hn.sublist hs
 rw [nms_succ hk,List.nodup_append] at h1
 exact h1.2.2 _ h _ (List.mem_singleton.2 rfl) rfl
theorem nms_nodup {k:Nat} (hk:k < gs.length) (hn:(nms gs k).Nodup) (h:gs[k].name ∉ nms gs k):(nms gs (k+1)).Nodup:=by
 rw [nms_succ hk,List.nodup_append]
 refine ⟨hn,by simp,fun a ha b hb e=>?_⟩
 rw [List.mem_singleton] at hb
 subst hb;subst e
 exact h ha
end
end Go.Proofs.YtkhmjidaeliccaaGreatDoor
namespace Go.Proofs.YtkhmjidaeliccaaGreatDoor
open Go.RowKit
def RetInt (n:Int) (w:World) (e:Ending) (w':World):Prop:=e=.returned (.int .i64 n)∧Below w.heap.size w w'
def RetBool (x:Bool) (w:World) (e:Ending) (w':World):Prop:=e=.returned (.bool x)∧Below w.heap.size w w'
def RetTrue (w:World) (e:Ending) (w':World):Prop:=e=.returned (.bool true)∧Below w.heap.size w w'
theorem isWeight_any (n:Int) (w:World):Calls Tryz.prog 67 #[.int .i64 n] w fun e w'=>e=.returned (.bool (inR 1 65535 n))∧w=w':=by
 by_cases h1:1≤n
 ·by_cases h2:n≤65535
  ·rw [inR_true h1 h2]
   go_enter Tryz.func67,Tryz.ntmps67
   go_wp2
   go_ret
   exact ⟨rfl,rfl⟩
  ·rw [inR_hi (show 65535 < n by omega)]
   go_enter Tryz.func67,Tryz.ntmps67
   go_wp2
   go_ret
   exact ⟨rfl,rfl⟩
 ·rw [inR_lo (show n < 1 by omega)]
  go_enter Tryz.func67,Tryz.ntmps67
  go_wp2
  go_ret
  exact ⟨rfl,rfl⟩
theorem weight42_any (n:Int) (w:World):Calls Tryz.prog 186 #[.int .i64 n] w fun e w'=>e=.returned (.bool (inR 0 65535 n))∧w=w':=by
 by_cases h1:0≤n
 ·by_cases h2:n≤65535
  ·rw [inR_true h1 h2]
   go_enter Tryz.func186,Tryz.ntmps186
   go_wp2
   go_ret
   exact ⟨rfl,rfl⟩
  ·rw [inR_hi (show 65535 < n by omega)]
   go_enter Tryz.func186,Tryz.ntmps186
   go_wp2
   go_ret
   exact ⟨rfl,rfl⟩
 ·rw [inR_lo (show n < 0 by omega)]
  go_enter Tryz.func186,Tryz.ntmps186
  go_wp2
  go_ret
  exact ⟨rfl,rfl⟩
theorem cpValid_any (n:Int) (w:World):Calls Tryz.prog 129 #[.int .i64 n] w fun e w'=>e=.returned (.bool (inR 0 1114111 n))∧w=w':=by
 by_cases h1:0≤n
 ·by_cases h2:n≤1114111
  ·rw [inR_true h1 h2]
   go_enter Tryz.func129,Tryz.ntmps129
   go_wp2
   go_ret
   exact ⟨rfl,rfl⟩
  ·rw [inR_hi (show 1114111 < n by omega)]
   go_enter Tryz.func129,Tryz.ntmps129
   go_wp2
   go_ret
   exact ⟨rfl,rfl⟩
 ·rw [inR_lo (show n < 0 by omega)]
  go_enter Tryz.func129,Tryz.ntmps129
  go_wp2
  go_ret
  exact ⟨rfl,rfl⟩
theorem z01 (p:Int):((p==0)=true∧(p != 0)=false∧Hid (p=0))∨((p==0)=false∧(p != 0)=true∧Hid (p≠0)):=by
 unfold Hid
 by_cases h:p=0
 ·left;simp [h]
 ·right;simp [h]
theorem idx3 (x y z:Value) (W:World):(Instr.index 145 (.agg #[x,y,z]) (.int .i64 0)).run Tryz.prog W=.ok x W∧(Instr.index 145 (.agg #[x,y,z]) (.int .i64 1)).run Tryz.prog W=.ok y W∧(Instr.index 145 (.agg #[x,y,z]) (.int .i64 2)).run Tryz.prog W=.ok z W:=⟨by kernel_rfl,by kernel_rfl,by kernel_rfl⟩
theorem eltCheck_any (e:Elt) (w:World):Calls Tryz.prog 130 #[.agg #[.int .i64 e.p,.int .i64 e.s,.int .i64 e.t,.bool e.v]] w (RetInt (eltErr e) w):=by
 obtain ⟨p,s,t,v⟩:=e
 have H1:=Lib.hid (fun (h:p < 0∨65535 < p∨s < 0∨65535 < s∨t < 0∨65535 < t)=>show eltErr ⟨p,s,t,v⟩=1 by unfold eltErr;rw [if_pos h])
 have H2:=Lib.hid (fun (h:¬(p < 0∨65535 < p∨s < 0∨65535 < s∨t < 0∨65535 < t))=>show eltErr ⟨p,s,t,v⟩=if (p≠0∧(s=0∨t=0))∨(s≠0∧t=0)∨(v=true∧p=0) then 11 else 0 by unfold eltErr;rw [if_neg h])
 have x0:=fun W=>(idx3 (.int .i64 p) (.int .i64 s) (.int .i64 t) W).1
 have x1:=fun W=>(idx3 (.int .i64 p) (.int .i64 s) (.int .i64 t) W).2.1
 have x2:=fun W=>(idx3 (.int .i64 p) (.int .i64 s) (.int .i64 t) W).2.2
 have BEL:=Lib.hid ((Below.refl w.heap.size w).alloc (Nat.le_refl _) (.cells #[.int .i64 p,.int .i64 s,.int .i64 t,.bool v] 77))
 generalize eltErr ⟨p,s,t,v⟩=R at *
 dsimp only
 go_enter Tryz.func130,Tryz.ntmps130
 go_wp2
 go_loop [4,12] (fun _ u=>∃j:Int,0≤j∧j≤3∧u=.int .i64 j∧(0 < j→0≤p∧p≤65535)∧(1 < j→0≤s∧s≤65535)∧(2 < j→0≤t∧t≤65535)) (fun _ u=>3 - (intOf u).toNat)
 case atStart=>exact ⟨0,by omega,by omega,rfl,by omega,by omega,by omega⟩
 case round=>
  obtain ⟨j,hj0,hj3,rfl,g0,g1,g2⟩:=hrel
  obtain rfl | rfl | rfl | rfl:j=0∨j=1∨j=2∨j=3:=by omega
  ·clear g0 g1 g2
   go_wp2
   all_goals first
    | (go_ret;exact ⟨ret_int (H1.out (by omega)).symm,BEL.out⟩)
    | (go_round
       case rel=>exact ⟨1,by omega,by omega,rfl,by omega,by omega,by omega⟩
       case measure=>simp [intOf])
  ·have G0:=g0 (by omega)
   clear g0 g1 g2
   go_wp2
   all_goals first
    | (go_ret;exact ⟨ret_int (H1.out (by omega)).symm,BEL.out⟩)
    | (go_round
       case rel=>exact ⟨2,by omega,by omega,rfl,by omega,by omega,by omega⟩
       case measure=>simp [intOf])
  ·have G0:=g0 (by omega)
   have G1:=g1 (by omega)
   clear g0 g1 g2
   go_wp2
   all_goals first
    | (go_ret;exact ⟨ret_int (H1.out (by omega)).symm,BEL.out⟩)
    | (go_round
       case rel=>exact ⟨3,by omega,by omega,rfl,by omega,by omega,by omega⟩
       case measure=>simp [intOf])
  ·have G0:=g0 (by omega)
   have G1:=g1 (by omega)
   have G2:=g2 (by omega)
   have H3:=Lib.hid (H2.out (by omega))
   clear g0 g1 g2 H1 H2 G0 G1 G2 x0 x1 x2
   rcases z01 p with ⟨p1,p2,p3⟩ | ⟨p1,p2,p3⟩ <;> rcases z01 s with ⟨s1,s2,s3⟩ | ⟨s1,s2,s3⟩ <;> rcases z01 t with ⟨t1,t2,t3⟩ | ⟨t1,t2,t3⟩ <;> cases v
   all_goals
    go_wp2
    go_ret
    refine ⟨ret_int ?_,BEL.out⟩
    rw [H3.out]
    simp [p3.out,s3.out,t3.out]
end Go.Proofs.YtkhmjidaeliccaaGreatDoor
namespace Go.Proofs.YtkhmjidaeliccaaGreatDoor
open Go.RowKit
structure Mp where
 frm:Int
 to:List Int
 tag:ByteArray
 deriving DecidableEq
structure Rg where
 lo:Int
 hi:Int
 deriving DecidableEq
def Rg.cells (r:Rg):List Value:=[.int .i64 r.lo,.int .i64 r.hi]
def Rgs (w:World) (A:Option Addr) (rs:List Rg):Prop:=Recs Rg.cells w A rs
theorem Rgs.below {w w':World} {A:Option Addr} {rs:List Rg} (h:Rgs w A rs) (hb:Below w.heap.size w w'):Rgs w' A rs:=Recs.below h hb
theorem Rgs.at {w:World} {A:Option Addr} {rs:List Rg} (h:Rgs w A rs) {m:Nat} (hm:m < rs.length) :
  ∃b o,A=some ⟨b,o,none⟩∧b < w.heap.size∧∀i,(hi:i < rs.length)→w.cell? ⟨b,o+i*2,none⟩=some (.int .i64 rs[i].lo)∧w.cell? ⟨b,o+i*2+1,none⟩=some (.int .i64 rs[i].hi):=by
 obtain ⟨b,o,rfl,hb,hc⟩:=Recs.at 2 (fun _=>rfl) (by omega) h hm
 exact ⟨b,o,rfl,hb,fun i hi=>⟨hc i hi 0 _ rfl,hc i hi 1 _ rfl⟩⟩
def mpC (p:Mp × Value):List Value:=[.int .i64 p.1.frm,p.2,.string p.1.tag]
def Mps (w:World) (A:Option Addr) (ms:List Mp):Prop:=
 ∃vs:List Value,vs.length=ms.length∧Recs mpC w A (ms.zip vs)∧∀i,(hi:i < ms.length)→(hv:i < vs.length)→∃C c,vs[i]=.slice C ms[i].to.length c∧ms[i].to.length≤c∧Ints w C ms[i].to
theorem Mps.below {w w':World} {A:Option Addr} {ms:List Mp} (h:Mps w A ms) (hb:Below w.heap.size w w'):Mps w' A ms:=by
 obtain ⟨vs,h1,h2,h3⟩:=h
 refine ⟨vs,h1,h2.below hb,fun i hi hv=>?_⟩
 obtain ⟨C,c,e1,e2,e3⟩:=h3 i hi hv
 exact ⟨C,c,e1,e2,e3.below hb⟩
theorem Mps.nil (w:World) (A:Option Addr):Mps w A []:=⟨[],rfl,Sl.nil _ _,fun _ hi=>absurd hi (Nat.not_lt_zero _)⟩
theorem Mps.at {w:World} {A:Option Addr} {ms:List Mp} (h:Mps w A ms) {m:Nat} (hm:m < ms.length) :
  ∃b o,A=some ⟨b,o,none⟩∧b < w.heap.size∧∀i,(hi:i < ms.length)→∃C c,w.cell? ⟨b,o+i*3,none⟩=some (.int .i64 ms[i].frm)∧w.cell? ⟨b,o+i*3+1,none⟩=some (.slice C ms[i].to.length c)∧w.cell? ⟨b,o+i*3+2,none⟩=some (.string ms[i].tag)∧ms[i].to.length≤c∧Ints w C ms[i].to:=by
 obtain ⟨vs,h1,h2,h3⟩:=h
 obtain ⟨b,o,rfl,hb,hc⟩:=Recs.at 3 (fun _=>rfl) (by omega) h2 (m:=m) (by rw [List.length_zip];omega)
 refine ⟨b,o,rfl,hb,fun i hi=>?_⟩
 obtain ⟨C,c,e1,e2,e3⟩:=h3 i hi (by omega)
 have hz:i < (ms.zip vs).length:=by rw [List.length_zip];omega
 have hg:(ms.zip vs)[i]=(ms[i],vs[i]'(by omega)):=List.getElem_zip
 refine ⟨C,c,?_,?_,?_,e2,e3⟩
 ·have:=hc i hz 0 (.int .i64 ms[i].frm) (by rw [hg];rfl);exact this
 ·have:=hc i hz 1 (.slice C ms[i].to.length c) (by rw [hg,e1];rfl);exact this
 ·have:=hc i hz 2 (.string ms[i].tag) (by rw [hg];rfl);exact this
structure MpsSz (ms:List Mp):Prop where
 n:ms.length≤1048576
 e:∀i,(hi:i < ms.length)→ms[i].to.length≤1048576∧ms[i].tag.size≤9223372036854775807
def bl (a b:ByteArray):Bool:=Op.bytesLess a.toList b.toList
def cmpS (a b:ByteArray):Int:=if bl a b=true then -1 else if bl b a=true then 1 else 0
def cmpM (a b:Mp):Int:=if a.frm < b.frm then -1 else if b.frm < a.frm then 1 else cmpS a.tag b.tag
def keyM (m:Mp):Int × ByteArray:=(m.frm,m.tag)
def mpBad (m:Mp):Bool:=!inR 0 1114111 m.frm || m.to.any (fun z=>!inR 0 1114111 z)
def tagBad (m:Mp):Bool:=decide (¬m.tag.size=0)&&!nameOk m.tag
def ascM:List Mp→Bool
 | a::b::r=>decide (cmpM a b < 0)&&ascM (b::r)
 | _=>true
def partsErr (ms:List Mp):Int:=if ms.any mpBad then 1 else if ms.any (fun m=>decide (64 < m.to.length)) then 2 else if ms.any tagBad then 6 else 0
def mapErr (ms:List Mp):Int:=if partsErr ms≠0 then partsErr ms else if ascM ms then 0 else if (ms.map keyM).Nodup then 4 else 5
theorem bytesLess_irrefl:∀a:List UInt8,Op.bytesLess a a=false
 | []=>rfl
 | x::r=>by simp [Op.bytesLess,bytesLess_irrefl r]
theorem bytesLess_total:∀{a b:List UInt8},Op.bytesLess a b=false→Op.bytesLess b a=false→a=b
 | [],[],_,_=>rfl
 | [],_::_,h,_=>by simp [Op.bytesLess] at h
 | _::_,[],_,h=>by simp [Op.bytesLess] at h
 | x::a,y::b,h1,h2=>by
  simp only [Op.bytesLess,Bool.or_eq_false_iff,Bool.and_eq_false_iff,decide_eq_false_iff_not,beq_eq_false_iff_ne] at *
  have e:x=y:=UInt8.le_antisymm (UInt8.not_lt.1 h2.1) (UInt8.not_lt.1 h1.1)
  subst e
  have i1:Op.bytesLess a b=false:=by rcases h1.2 with h | h;exact absurd rfl h;exact h
  have i2:Op.bytesLess b a=false:=by rcases h2.2 with h | h;exact absurd rfl h;exact h
  rw [bytesLess_total i1 i2]
theorem bl_self (a:ByteArray):bl a a=false:=bytesLess_irrefl _
theorem bl_total {a b:ByteArray} (h:bl a b=false) (h':bl b a=false):a=b:=str_inj (bytesLess_total h h')
def hasR (rs:List Rg) (c:Int):Bool:=inR 0 1114111 c&&rs.any (fun r=>inR r.lo r.hi c)
end Go.Proofs.YtkhmjidaeliccaaGreatDoor
namespace Go.Proofs.YtkhmjidaeliccaaGreatDoor
open Go.RowKit
structure Spn where
 lo:Int
 hi:Int
 val:Int
def flat3 (ss:List Spn):List Value:=ss.flatMap fun s=>[.int .i64 s.lo,.int .i64 s.hi,.int .i64 s.val]
theorem flat3_len (ss:List Spn):(flat3 ss).length=ss.length*3:=by
 induction ss with
 | nil=>rfl
 | cons r rs ih=>simp only [flat3,List.flatMap_cons,List.length_append,List.length_cons,List.length_nil] at *;omega
theorem flat3_get (ss:List Spn) (k:Nat) (hk:k < ss.length) :
  (flat3 ss)[k*3]?=some (.int .i64 ss[k].lo)∧(flat3 ss)[k*3+1]?=some (.int .i64 ss[k].hi)∧(flat3 ss)[k*3+2]?=some (.int .i64 ss[k].val):=by
 induction ss generalizing k with
 | nil=>simp at hk
 | cons r rs ih=>
  cases k with
  | zero=>simp [flat3]
  | succ k=>
   have:=ih k (by simpa using hk)
   simp only [flat3,List.flatMap_cons,List.cons_append,List.nil_append,List.getElem_cons_succ] at *
   rw [show (k+1)*3=k*3+1+1+1 by omega]
   simpa using this
def Spans (w:World) (A:Option Addr) (ss:List Spn):Prop:=Sl w A (flat3 ss)
theorem Spans.at {w:World} {A:Option Addr} {ss:List Spn} (h:Spans w A ss) {k:Nat} (hk:k < ss.length) :
  ∃b o,A=some ⟨b,o,none⟩∧b < w.heap.size∧∀j,(hj:j < ss.length)→w.cell? ⟨b,o+j*3,none⟩=some (.int .i64 ss[j].lo)∧w.cell? ⟨b,o+j*3+1,none⟩=some (.int .i64 ss[j].hi)∧
   w.cell? ⟨b,o+j*3+2,none⟩=some (.int .i64 ss[j].val):=by
 obtain ⟨b,o,rfl,hc⟩:=Sl.at h (k:=k*3) (by rw [flat3_len];omega)
 refine ⟨b,o,rfl,World.block_lt_of_cell? w _ (hc _ _ (flat3_get ss k hk).1),fun j hj=>⟨?_,?_,?_⟩⟩
 ·exact hc _ _ (flat3_get ss j hj).1
 ·exact hc _ _ (flat3_get ss j hj).2.1
 ·exact hc _ _ (flat3_get ss j hj).2.2
theorem Spans.below {w w':World} {A:Option Addr} {ss:List Spn} (h:Spans w A ss) (hb:Below w.heap.size w w'):Spans w' A ss:=Sl.below h hb
theorem Spans.keep {w w':World} {A:Option Addr} {ss:List Spn} (h:Spans w A ss) (hb:∀p:Addr,p.block < w.heap.size→w'.cell? p=w.cell? p):Spans w' A ss:=Sl.keep h hb
def cls (ss:List Spn) (c:Int):Int:=
 match ss with
 | []=>0
 | s::r=>if s.lo≤c∧c≤s.hi then s.val else cls r c
def Asc (ss:List Spn):Prop:=∀i j,(hi:i < ss.length)→(hj:j < ss.length)→(ss[i].lo≤ss[i].hi)∧(i < j→ss[i].hi < ss[j].lo)
theorem cls_at (ss:List Spn) (c:Int) (i:Nat) (hi:i < ss.length) (h:Asc ss) (h1:ss[i].lo≤c) (h2:c≤ss[i].hi):cls ss c=ss[i].val:=by
 induction ss generalizing i with
 | nil=>simp at hi
 | cons s r ih=>
  cases i with
  | zero=>simp only [List.getElem_cons_zero] at *;unfold cls;rw [if_pos ⟨h1,h2⟩]
  | succ i=>
   have hlt:=(h 0 (i+1) (by simp) hi).2 (by omega)
   simp only [List.getElem_cons_zero,List.getElem_cons_succ] at *
   unfold cls
   rw [if_neg (by omega)]
   refine ih i (by simpa using hi) (fun a b ha hb=>?_) h1 h2
   have:=h (a+1) (b+1) (by simpa using ha) (by simpa using hb)
   simp only [List.getElem_cons_succ] at this
   exact ⟨this.1,fun hab=>this.2 (by omega)⟩
theorem cls_none (ss:List Spn) (c:Int) (h:∀i,(hi:i < ss.length)→¬(ss[i].lo≤c∧c≤ss[i].hi)):cls ss c=0:=by
 induction ss with
 | nil=>rfl
 | cons s r ih=>
  unfold cls
  have h0:=h 0 (by simp)
  simp only [List.getElem_cons_zero] at h0
  rw [if_neg h0]
  exact ih fun i hi=>by
   have:=h (i+1) (by simpa using hi)
   simpa using this
theorem Asc.nil:Asc []:=fun i _ hi=>by simp at hi
end Go.Proofs.YtkhmjidaeliccaaGreatDoor
namespace Go.Proofs.YtkhmjidaeliccaaGreatDoor
open Go.RowKit
def Bad1 (s:Spn):Prop:=s.lo < 0∨1114111 < s.hi∨s.hi < s.lo∨s.val < 1∨254 < s.val
def Bad2 (a b:Spn):Prop:=b.lo≤a.hi∨(b.lo=a.hi+1∧b.val=a.val)
def Bad3 (s:Spn):Prop:=(s.lo≤4370∧4352≤s.hi)∨(s.lo≤4469∧4449≤s.hi)∨(s.lo≤4546∧4520≤s.hi)∨(s.lo≤55203∧44032≤s.hi)
instance (s:Spn):Decidable (Bad1 s):=by unfold Bad1;exact inferInstance
instance (a b:Spn):Decidable (Bad2 a b):=by unfold Bad2;exact inferInstance
instance (s:Spn):Decidable (Bad3 s):=by unfold Bad3;exact inferInstance
def adj2:List Spn→Bool
 | a::b::r=>decide (Bad2 a b) || adj2 (b::r)
 | _=>false
def chk (ss:List Spn):Int:=if (ss.any fun s=>decide (Bad1 s))=true then 1 else if adj2 ss=true then 4 else if (ss.any fun s=>decide (Bad3 s))=true then 11 else 0
theorem any_true {p:Spn→Bool} {ss:List Spn} {k:Nat} (hk:k < ss.length) (h:p ss[k]=true):ss.any p=true:=List.any_eq_true.2 ⟨ss[k],List.getElem_mem hk,h⟩
theorem any_false {p:Spn→Bool} {ss:List Spn} (h:∀t,(ht:t < ss.length)→p ss[t]=false):ss.any p=false:=by
 rw [List.any_eq_false]
 intro x hx
 obtain ⟨i,hi,rfl⟩:=List.getElem_of_mem hx
 rw [h i hi];simp
theorem adj2_true {ss:List Spn} {k:Nat} (hk:k+1 < ss.length) (h:Bad2 ss[k] ss[k+1]):adj2 ss=true:=by
 induction ss generalizing k with
 | nil=>simp at hk
 | cons a r ih=>
  cases r with
  | nil=>simp at hk
  | cons b r=>
   cases k with
   | zero=>simp only [List.getElem_cons_zero,List.getElem_cons_succ] at h;simp [adj2,h]
   | succ k=>
    simp only [adj2,Bool.or_eq_true]
    right
    exact ih (k:=k) (by simpa using hk) (by simpa using h)
theorem adj2_false {ss:List Spn} (h:∀t,(ht:t+1 < ss.length)→¬Bad2 ss[t] ss[t+1]):adj2 ss=false:=by
 induction ss with
 | nil=>rfl
 | cons a r ih=>
  cases r with
  | nil=>rfl
  | cons b r=>
   have h0:=h 0 (by simp)
   simp only [List.getElem_cons_zero,List.getElem_cons_succ] at h0
   simp only [adj2,Bool.or_eq_false_iff]
   refine ⟨by simpa using h0,ih fun t ht=>?_⟩
   have:=h (t+1) (by simpa using ht)
   simpa using this
theorem chk_1 {ss:List Spn} {k:Nat} (hk:k < ss.length) (h:Bad1 ss[k]):chk ss=1:=by
 unfold chk;rw [if_pos (any_true hk (by simpa using h))]
theorem chk_4 {ss:List Spn} {k:Nat} (h1:∀t,(ht:t < ss.length)→¬Bad1 ss[t]) (hk:k+1 < ss.length) (h:Bad2 ss[k] ss[k+1]):chk ss=4:=by
 unfold chk;rw [if_neg (by rw [any_false fun t ht=>by simpa using h1 t ht];simp),if_pos (adj2_true hk h)]
theorem chk_11 {ss:List Spn} {k:Nat} (h1:∀t,(ht:t < ss.length)→¬Bad1 ss[t]) (h2:∀t,(ht:t+1 < ss.length)→¬Bad2 ss[t] ss[t+1]) (hk:k < ss.length) (h:Bad3 ss[k]):chk ss=11:=by
 unfold chk;rw [if_neg (by rw [any_false fun t ht=>by simpa using h1 t ht];simp),if_neg (by rw [adj2_false h2];simp),if_pos (any_true hk (by simpa using h))]
theorem chk_0 {ss:List Spn} (h1:∀t,(ht:t < ss.length)→¬Bad1 ss[t]) (h2:∀t,(ht:t+1 < ss.length)→¬Bad2 ss[t] ss[t+1]) (h3:∀t,(ht:t < ss.length)→¬Bad3 ss[t]):chk ss=0:=by
 unfold chk;rw [if_neg (by rw [any_false fun t ht=>by simpa using h1 t ht];simp),if_neg (by rw [adj2_false h2];simp),if_neg (by rw [any_false fun t ht=>by simpa using h3 t ht];simp)]
theorem all_succ {ss:List Spn} {P:Spn→Prop} {i:Nat} (hlt:i < ss.length) (h:∀t,(ht:t < ss.length)→t < i→¬P ss[t]) (hi:¬P ss[i]):∀t,(ht:t < ss.length)→t < i+1→¬P ss[t]:=by
 intro t ht g
 by_cases e:t < i
 ·exact h t ht e
 ·obtain rfl:t=i:=by omega
  exact hi
theorem pair_succ {ss:List Spn} {P:Spn→Spn→Prop} {i:Nat} (hlt:i+1 < ss.length) (h:∀t,(ht:t+1 < ss.length)→t < i→¬P ss[t] ss[t+1]) (hi:¬P ss[i] ss[i+1]):∀t,(ht:t+1 < ss.length)→t < i+1→¬P ss[t] ss[t+1]:=by
 intro t ht g
 by_cases e:t < i
 ·exact h t ht e
 ·obtain rfl:t=i:=by omega
  exact hi
theorem chk_ok {ss:List Spn} (h:chk ss=0):(∀t,(ht:t < ss.length)→¬Bad1 ss[t])∧(∀t,(ht:t+1 < ss.length)→¬Bad2 ss[t] ss[t+1]):=by
 unfold chk at h
 split at h
 ·omega
 ·next h1=>
  split at h
  ·omega
  ·next h2=>
   refine ⟨fun t ht hb=>h1 (any_true ht (by simpa using hb)),fun t ht hb=>h2 (adj2_true ht hb)⟩
theorem asc_of_ok {ss:List Spn} (h:chk ss=0):Asc ss:=by
 obtain ⟨h1,h2⟩:=chk_ok h
 have step:∀d i,(hi:i < ss.length)→(hj:i+d+1 < ss.length)→ss[i].hi < ss[i+d+1].lo:=by
  intro d
  induction d with
  | zero=>
   intro i hi hj
   have:=h2 i (by omega)
   unfold Bad2 at this
   have:¬ss[i+1].lo≤ss[i].hi:=fun h=>this (.inl h)
   simp only [Nat.add_zero];omega
  | succ d ih=>
   intro i hi hj
   have a1:=ih i hi (by omega)
   have a2:=h2 (i+d+1) (by omega)
   have a3:=h1 (i+d+1) (by omega)
   unfold Bad2 at a2
   unfold Bad1 at a3
   have a4:¬ss[i+d+1+1].lo≤ss[i+d+1].hi:=fun h=>a2 (.inl h)
   have:i+(d+1)+1=i+d+1+1:=by omega
   simp only [this]
   omega
 intro i j hi hj
 refine ⟨?_,fun hij=>?_⟩
 ·have:=h1 i hi
  unfold Bad1 at this
  omega
 ·have:=step (j - i - 1) i hi (by omega)
  have e:i+(j - i - 1)+1=j:=by omega
  simp only [e] at this
  exact this
end Go.Proofs.YtkhmjidaeliccaaGreatDoor
namespace Go.Proofs.YtkhmjidaeliccaaGreatDoor.Hg
def kind (c:Int):Int:=
 if 0x1100≤c∧c≤0x1112 then 1
 else if 0x1161≤c∧c≤0x1175 then 2
 else if 0x11A8≤c∧c≤0x11C2 then 3
 else if 0xAC00≤c∧c≤0xD7A3 then (if (c - 0xAC00) % 28=0 then 4 else 5)
 else 0
theorem kind1 {c:Int} (h:0x1100≤c∧c≤0x1112):kind c=1:=by unfold kind;rw [if_pos h]
theorem kind2 {c:Int} (h:0x1161≤c∧c≤0x1175):kind c=2:=by unfold kind;rw [if_neg (by omega),if_pos h]
theorem kind3 {c:Int} (h:0x11A8≤c∧c≤0x11C2):kind c=3:=by unfold kind;rw [if_neg (by omega),if_neg (by omega),if_pos h]
theorem kind4 {c:Int} (h:0xAC00≤c∧c≤0xD7A3) (h':(c - 0xAC00) % 28=0):kind c=4:=by unfold kind;rw [if_neg (by omega),if_neg (by omega),if_neg (by omega),if_pos h,if_pos h']
theorem kind5 {c:Int} (h:0xAC00≤c∧c≤0xD7A3) (h':¬(c - 0xAC00) % 28=0):kind c=5:=by unfold kind;rw [if_neg (by omega),if_neg (by omega),if_neg (by omega),if_pos h,if_neg h']
theorem kind0 {c:Int} (h1:¬(0x1100≤c∧c≤0x1112)) (h2:¬(0x1161≤c∧c≤0x1175)) (h3:¬(0x11A8≤c∧c≤0x11C2)) (h4:¬(0xAC00≤c∧c≤0xD7A3)):kind c=0:=by
 unfold kind;rw [if_neg h1,if_neg h2,if_neg h3,if_neg h4]
theorem cases6 (c:Int):(0x1100≤c∧c≤0x1112∧kind c=1)∨(0x1161≤c∧c≤0x1175∧kind c=2)∨(0x11A8≤c∧c≤0x11C2∧kind c=3)∨(0xAC00≤c∧c≤0xD7A3∧(c - 0xAC00) % 28=0∧kind c=4)∨
  (0xAC00≤c∧c≤0xD7A3∧¬(c - 0xAC00) % 28=0∧kind c=5)∨(¬(0x1100≤c∧c≤0x1112)∧¬(0x1161≤c∧c≤0x1175)∧¬(0x11A8≤c∧c≤0x11C2)∧¬(0xAC00≤c∧c≤0xD7A3)∧kind c=0):=by
 by_cases h1:0x1100≤c∧c≤0x1112
 ·exact .inl ⟨h1.1,h1.2,kind1 h1⟩
 by_cases h2:0x1161≤c∧c≤0x1175
 ·exact .inr (.inl ⟨h2.1,h2.2,kind2 h2⟩)
 by_cases h3:0x11A8≤c∧c≤0x11C2
 ·exact .inr (.inr (.inl ⟨h3.1,h3.2,kind3 h3⟩))
 by_cases h4:0xAC00≤c∧c≤0xD7A3
 ·by_cases h5:(c - 0xAC00) % 28=0
  ·exact .inr (.inr (.inr (.inl ⟨h4.1,h4.2,h5,kind4 h4 h5⟩)))
  ·exact .inr (.inr (.inr (.inr (.inl ⟨h4.1,h4.2,h5,kind5 h4 h5⟩))))
 ·exact .inr (.inr (.inr (.inr (.inr ⟨h1,h2,h3,h4,kind0 h1 h2 h3 h4⟩))))
theorem kind_range (c:Int):0≤kind c∧kind c≤5:=by
 rcases cases6 c with h | h | h | h | h | h <;> omega
def decomp (c:Int):List Int:=
 if kind c < 4 then [c]
 else if (c - 0xAC00) % 28=0 then [0x1100+(c - 0xAC00) / 28 / 21,0x1161+(c - 0xAC00) / 28 % 21]
 else [0x1100+(c - 0xAC00) / 28 / 21,0x1161+(c - 0xAC00) / 28 % 21,0x11A8+(c - 0xAC00) % 28 - 1]
def pl (p q r:Int):Nat:=
 if (p==1&&q==2&&r==3)=true then 3 else if (p==1&&q==2)=true then 2 else if (p==4&&q==3)=true then 2 else if 4≤p then 1 else 0
def kd (l:List Int) (j:Nat):Int:=(l[j]?.map kind).getD 0
def plen (l:List Int):Nat:=pl (kd l 0) (kd l 1) (kd l 2)
def spl (l:List Int):Nat→Nat→List (Nat × Nat)
 | 0,_=>[]
 | f+1,i=>if i < l.length then (if 0 < plen (l.drop i) then (i,i+plen (l.drop i))::spl l f (i+plen (l.drop i)) else spl l f (i+1)) else []
def sp (l:List Int) (i:Nat):List (Nat × Nat):=spl l (l.length - i) i
end Go.Proofs.YtkhmjidaeliccaaGreatDoor.Hg
