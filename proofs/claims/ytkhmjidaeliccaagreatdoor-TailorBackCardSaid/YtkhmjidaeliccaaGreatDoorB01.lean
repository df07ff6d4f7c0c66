/- Texts that are merged into one file: Words, Tlr, PaPlain, PaPre, PaBack, PaOk, TxPlain. -/
import Derived.WalkKit
import Derived.WalkLawsBesides
import Derived.Lib.Hide
import Derived.Laws.StructEq
import Derived.Maps.AppendAt
import Derived.Laws.BytesArg
import Derived.Lib.Join
set_option maxRecDepth 100000
set_option maxHeartbeats 51200000
namespace Go.Proofs.YtkhmjidaeliccaaGreatDoor
open Go.RowKit
def Sl (w:World) (A:Option Addr) (cs:List Value):Prop:=
 cs≠[]→∃b o,A=some ⟨b,o,none⟩∧∀j u,cs[j]?=some u→w.cell? ⟨b,o+j,none⟩=some u
theorem Sl.nil (w:World) (A:Option Addr):Sl w A []:=fun h=>absurd rfl h
theorem Sl.at {w:World} {A:Option Addr} {cs:List Value} (h:Sl w A cs) {k:Nat} (hk:k < cs.length) :
  ∃b o,A=some ⟨b,o,none⟩∧∀j u,cs[j]?=some u→w.cell? ⟨b,o+j,none⟩=some u:=
 h (by rintro rfl;simp at hk)
theorem Sl.keep {w w':World} {A:Option Addr} {cs:List Value} (h:Sl w A cs) (hb:∀p:Addr,p.block < w.heap.size→w'.cell? p=w.cell? p):Sl w' A cs:=by
 intro hne
 obtain ⟨b,o,rfl,hc⟩:=h hne
 refine ⟨b,o,rfl,fun j u hu=>?_⟩
 have h1:=hc j u hu
 rw [hb _ (World.block_lt_of_cell? w _ h1)]
 exact h1
theorem Sl.below {w w':World} {A:Option Addr} {cs:List Value} (h:Sl w A cs) (hb:Below w.heap.size w w'):Sl w' A cs:=h.keep fun _ hp=>hb.cell hp
theorem Sl.drewN {w:World} {A:Option Addr} {cs:List Value} (h:Sl w A cs) (n:Nat):Sl (w.drewN n) A cs:=h
theorem Sl.drew {w:World} {A:Option Addr} {cs:List Value} (h:Sl w A cs):Sl w.drew A cs:=h
theorem Sl.alloc {w:World} {A:Option Addr} {cs:List Value} (h:Sl w A cs) (o:Obj):Sl (w.alloc o) A cs:=h.below ((Below.refl _ _).alloc (Nat.le_refl _) _)
theorem Sl.of_own {w:World} {base:Nat} {e:TypeId} {size n c:Nat} {A:Option Addr} {xs:List Value} (h:w.ownsRow base e size (.slice A n c) n xs):Sl w A xs:=by
 intro hne
 rcases h.2 with ⟨hv,rfl⟩ | ⟨g,cap,cur,hv,_⟩
 ·have:=h.1;simp at this;exact absurd this hne
 ·injection hv with hA;subst hA
  refine ⟨g,0,rfl,fun j u hu=>?_⟩
  have:=h.cells (g:=g) rfl j u hu
  unfold Addr.add at this
  split at this <;> simp_all
def Ints (w:World) (A:Option Addr) (zs:List Int):Prop:=Sl w A (zs.map (Value.int .i64))
theorem Ints.at {w:World} {A:Option Addr} {zs:List Int} (h:Ints w A zs) {k:Nat} (hk:k < zs.length) :
  ∃b o,A=some ⟨b,o,none⟩∧∀j,(hj:j < zs.length)→w.cell? ⟨b,o+j,none⟩=some (.int .i64 zs[j]):=by
 obtain ⟨b,o,hA,hc⟩:=Sl.at h (k:=k) (by simpa using hk)
 exact ⟨b,o,hA,fun j hj=>hc j _ (by simp [hj])⟩
theorem Sl.cut {w:World} {b o:Nat} {cs:List Value} (h:Sl w (some ⟨b,o,none⟩) cs) (k:Nat):Sl w (some ⟨b,o+k,none⟩) (cs.drop k):=by
 intro hne
 have hne':cs≠[]:=by rintro rfl;simp at hne
 obtain ⟨b',o',hA,hc⟩:=h hne'
 injection hA with hA
 injection hA with h1 h2
 subst h1;subst h2
 refine ⟨_,_,rfl,fun j u hu=>?_⟩
 rw [Nat.add_assoc]
 exact hc _ u (by rw [←hu,List.getElem?_drop])
theorem Ints.cut {w:World} {b o:Nat} {zs:List Int} (h:Ints w (some ⟨b,o,none⟩) zs) (k:Nat):Ints w (some ⟨b,o+k,none⟩) (zs.drop k):=by
 unfold Ints
 rw [List.map_drop]
 exact Sl.cut h k
theorem Ints.below {w w':World} {A:Option Addr} {zs:List Int} (h:Ints w A zs) (hb:Below w.heap.size w w'):Ints w' A zs:=Sl.below h hb
theorem Sl_new (w:World) (cs:List Value) (t:TypeId) {B:Nat} (h:B=w.heap.size):Sl (w.alloc (.cells cs.toArray t)) (some ⟨B,0,none⟩) cs:=by
 subst h
 intro _
 refine ⟨_,_,rfl,fun j u hu=>?_⟩
 rw [World.cell?_alloc_at _ _ _ _ rfl]
 simpa using hu
theorem Ints_new (w:World) (zs:List Int) (t:TypeId) {B:Nat} (h:B=w.heap.size):Ints (w.alloc (.cells (zs.map (Value.int .i64)).toArray t)) (some ⟨B,0,none⟩) zs:=Sl_new w _ t h
theorem below_of_drewN (w:World) (n:Nat):Below w.heap.size w (w.drewN n):=⟨rfl,rfl,rfl,Nat.le_refl _,fun _ _=>rfl⟩
def Qt (w w':World):Prop:=∃q,w'=w.drewN q
theorem Qt.refl (w:World):Qt w w:=⟨0,rfl⟩
theorem Qt.drewN {w w':World} (h:Qt w w') (n:Nat):Qt w (w'.drewN n):=by obtain ⟨q,rfl⟩:=h;exact ⟨q+n,World.drewN_drewN _ _ _⟩
theorem Qt.drew {w w':World} (h:Qt w w'):Qt w w'.drew:=h.drewN 1
theorem Qt.trans {a b c:World} (h:Qt a b) (k:Qt b c):Qt a c:=by obtain ⟨q,rfl⟩:=k;exact h.drewN q
theorem Qt.below {w w':World} (h:Qt w w'):Below w.heap.size w w':=by obtain ⟨q,rfl⟩:=h;exact below_of_drewN w q
theorem ret_int {k:IntKind} {a b:Int} (h:a=b):Ending.returned (.int k a)=.returned (.int k b):=by rw [h]
theorem ret_bool {a b:Bool} (h:a=b):Ending.returned (.bool a)=.returned (.bool b):=by rw [h]
section
variable {P:Program} (w:World)
theorem run_part_int (e:TypeId) (k:IntKind) (hu:P.underlying e=some (.int k)) (xs:Array Value) (j:Nat) (v:Value) (hv:xs[j]?=some v):(part e xs j).run P w=.ok v w:=by
 simp [part,isAgg,run_underlying hu,hv]
theorem run_equalIn_array3 (d:Nat) (t e:TypeId) (k:IntKind) (i:TypeInfo) (ht:P.underlying t=some (.array 3 e)) (he:P.underlying e=some (.int k)) (hi:P.info? e=some i) (hs:i.size=1) (a b c a' b' c':Int) :
  (Op.equalIn (d+2) t (.agg #[.int k a,.int k b,.int k c]) (.agg #[.int k a',.int k b',.int k c'])).run P w=.ok (a==a'&&b==b'&&c==c') w:=by
 have e0:∀W,(Op.equalIn (d+1) e (.int k a) (.int k a')).run P W=.ok (a==a') W:=fun W=>run_equalIn_int W d e k k a a' he
 have e1:∀W,(Op.equalIn (d+1) e (.int k b) (.int k b')).run P W=.ok (b==b') W:=fun W=>run_equalIn_int W d e k k b b' he
 have e2:∀W,(Op.equalIn (d+1) e (.int k c) (.int k c')).run P W=.ok (c==c') W:=fun W=>run_equalIn_int W d e k k c c' he
 have p0:=fun (xs:Array Value) (v:Value)=>run_part_int (P:=P) w e k he xs 0 v
 have p1:=fun (xs:Array Value) (v:Value)=>run_part_int (P:=P) w e k he xs 1 v
 have p2:=fun (xs:Array Value) (v:Value)=>run_part_int (P:=P) w e k he xs 2 v
 rw [Op.equalIn]
 simp only [Sem.run_bind,run_underlying ht,Result.andThen_ok,sizeOf,typeInfo,Sem.run_pure]
 simp [Std.Legacy.Range.forIn_eq_forIn_range',List.range',e0,e1,e2,p0,p1,p2,hi,hs]
 by_cases h1:a=a' <;> by_cases h2:b=b' <;> by_cases h3:c=c' <;> simp [h1,h2,h3]
end
def cmpL:List Int→List Int→Int
 | [],[]=>0
 | [],_::_=>-1
 | _::_,[]=>1
 | a::asq,b::bs=>if a < b then -1 else if b < a then 1 else cmpL asq bs
theorem cmpL_eq_zero (xs ys:List Int):cmpL xs ys=0 ↔ xs=ys:=by
 induction xs generalizing ys with
 | nil=>cases ys <;> simp [cmpL]
 | cons a asq ih=>
  cases ys with
  | nil=>simp [cmpL]
  | cons b bs=>
   simp only [cmpL]
   split
   ·constructor
    ·intro h;omega
    ·intro h;injection h;omega
   ·split
    ·constructor
     ·intro h;omega
     ·intro h;injection h;omega
    ·rw [ih]
     constructor
     ·rintro rfl;congr 1;omega
     ·intro h;injection h
theorem cmpL_drop (xs ys:List Int) (k:Nat) (h1:k < xs.length) (h2:k < ys.length) :
  cmpL (xs.drop k) (ys.drop k)=if xs[k] < ys[k] then -1 else if ys[k] < xs[k] then 1 else cmpL (xs.drop (k+1)) (ys.drop (k+1)):=by
 rw [List.drop_eq_getElem_cons h1,List.drop_eq_getElem_cons h2,cmpL]
theorem cmpL_end (xs ys:List Int) (k:Nat) (h:k=xs.length∨k=ys.length) (h1:k≤xs.length) (h2:k≤ys.length) :
  cmpL (xs.drop k) (ys.drop k)=if xs.length < ys.length then -1 else if ys.length < xs.length then 1 else 0:=by
 by_cases e1:k=xs.length
 ·have:xs.drop k=[]:=by simp [e1]
  rw [this]
  by_cases e2:k=ys.length
  ·have:ys.drop k=[]:=by simp [e2]
   rw [this,if_neg (by omega),if_neg (by omega)];rfl
  ·rw [List.drop_eq_getElem_cons (show k < ys.length by omega),if_pos (by omega)];rfl
 ·have e2:k=ys.length:=by omega
  have:ys.drop k=[]:=by simp [e2]
  rw [this,List.drop_eq_getElem_cons (show k < xs.length by omega),if_neg (by omega),if_pos (by omega)];rfl
section
variable {P:Program} {w:World}
theorem own_form {base:Nat} {e:TypeId} {size n:Nat} {v:Value} {xs:List Value} (h:w.ownsRow base e size v n xs):∃A c,v=.slice A n c∧n≤c:=by
 rcases h.2 with ⟨rfl,rfl⟩ | ⟨g,cap,cur,rfl,_,_,hn,_⟩
 ·exact ⟨_,_,rfl,Nat.le_refl _⟩
 ·exact ⟨_,_,rfl,hn⟩
theorem own_below {base:Nat} {e:TypeId} {size n:Nat} {v:Value} {xs:List Value} {w':World} (h:w.ownsRow base e size v n xs) (hg:w.grownBy w' v.ownBlock) (hb:base≤w.heap.size):Below base w w':=
 (Below.refl _ _).grown hg hb fun k hk=>(h.lt k hk).1
theorem own_keep {base:Nat} {e:TypeId} {size n:Nat} {v:Value} {xs:List Value} {w':World} (h:w.ownsRow base e size v n xs) (hb:Below w.heap.size w w'):w'.ownsRow base e size v n xs:=
 h.kept (row:=none) ⟨hb.os,hb.tape,hb.output,hb.size,fun k hk _=>hb.block k hk⟩ (by cases hv:v.ownBlock <;> simp)
theorem own_new (cs:List Value) (e:TypeId) (size n base:Nat) {B:Nat} (hB:B=w.heap.size) (hl:cs.length=n*size) (hb:base≤w.heap.size) (hm:n≤9223372036854775807) :
  (w.alloc (.cells cs.toArray e)).ownsRow base e size (.slice (some ⟨B,0,none⟩) n n) n cs:=by
 subst hB
 refine ⟨hl,.inr ⟨w.heap.size,n,cs.toArray,rfl,hb,heap_alloc_new w _,Nat.le_refl _,by unfold maxLen;omega,by simpa using hl,?_⟩⟩
 simp [←hl]
theorem run_app (t ty e:TypeId) (z:Value) (size bytes:Nat) (ht:P.underlying t=some (.slice e))
  (hinfo:(P.info? e).map (fun i=>(i.zero,i.size,i.bytes))=some (some z,size,bytes)) (hzs:z.cells.size=size) (hsz:0 < size) (hby:0 < bytes)
  {base:Nat} {A:Option Addr} {n c:Nat} {xs:List Value} (hown:w.ownsRow base e size (.slice A n c) n xs)
  {A':Option Addr} {m c':Nat} {news:List Value} (hr:Sl w A' news) (hl:news.length=m*size) (h1:∀u ∈ news,u.oneCell'=true)
  (hlim:(n+m)*bytes≤140737488355328) (hbase:base≤w.heap.size) :
  ∃B k w',(Builtin.append_ #[t,t] ty #[.slice A n c,.slice A' m c']).run P w=.ok (.slice B (n+m) k) w'∧w'.ownsRow base e size (.slice B (n+m) k) (n+m) (xs++news)∧n+m≤k∧
   Below base w w'∧w.grownBy w' (Value.ownBlock (.slice A n c))∧(B=A∨B=some ⟨w.heap.size,0,none⟩):=by
 obtain ⟨i,hi,hz,hsize,hbytes⟩:=info_parts hinfo
 have h63:n+m≤maxLen:=by
  have:(n+m)*1≤(n+m)*bytes:=Nat.mul_le_mul_left _ hby
  unfold maxLen;omega
 rcases Nat.eq_zero_or_pos m with hm | hm
 ·subst hm
  have hn:news=[]:=List.eq_nil_of_length_eq_zero (by simpa using hl)
  subst hn
  obtain ⟨_,_,hv,hnc⟩:=own_form hown
  injection hv with _ _ hc
  subst hc
  refine ⟨A,c,w,?_,by simpa using hown,hnc,Below.refl _ _,⟨rfl,rfl,rfl,Nat.le_refl _,fun _ _ _=>rfl⟩,.inl rfl⟩
  rcases hown.2 with ⟨hv,_⟩ | ⟨g,cap,cur,hv,_,_,_⟩
  ·injection hv with hA hn hc
   subst hA;subst hn;subst hc
   cases A' <;> simp [Builtin.append_,run_underlying ht,sizeOf,typeInfo,hi,Builtin.lenOf,Builtin.firstCells,loadCells,loadCellsFrom]
  ·injection hv with hA hn hc
   subst hA;subst hc
   cases A' <;> simp [Builtin.append_,run_underlying ht,sizeOf,typeInfo,hi,Builtin.lenOf,Builtin.firstCells,loadCells,loadCellsFrom,hnc,storeCells]
 ·have hne:news≠[]:=by rintro rfl;rw [List.length_nil] at hl;have:=Nat.mul_pos hm hsz;omega
  obtain ⟨b,o,rfl,hc⟩:=hr hne
  have hnews:∀j u,news[j]?=some u→w.cell? ((⟨b,o,none⟩:Addr).add j)=some u:=by
   intro j u hu
   have:=hc j u hu
   unfold Addr.add
   split
   ·next h=>subst h;simpa using this
   ·exact this
  obtain ⟨v',w',hrun,h2,h3,_,h5⟩:=run_append_own_at (P:=P) w base t ty e i z size bytes ht hi hz hsize hbytes hzs hsz _ n xs hown ⟨b,o,none⟩ m c' news hl hnews h1 h63 hlim hbase
  obtain ⟨B,k,rfl,hk⟩:=own_form h2
  refine ⟨B,k,w',hrun,h2,hk,own_below hown h3 hbase,h3,?_⟩
  obtain ⟨g,cap,hv,_⟩:=(show ∃g cap,(Value.slice B (n+m) k)=.slice (some ⟨g,0,none⟩) (n+m) cap∧True by
   rcases h2.2 with ⟨_,h0⟩ | ⟨g,cap,cur,hv,_⟩
   ·omega
   ·exact ⟨g,cap,hv,trivial⟩)
  injection hv with hB
  subst hB
  rcases h5 with h5 | h5
  ·left
   rcases hown.2 with ⟨hv,_⟩ | ⟨g',cap',cur',hv,_⟩
   ·injection hv with hA;subst hA;simp [Value.ownBlock] at h5
   ·injection hv with hA;subst hA;simp [Value.ownBlock] at h5;rw [h5]
  ·right;simp [Value.ownBlock] at h5;rw [h5]
theorem wpList_app {ops:Array Oper} {rest:List Oper} {o:Oper} {a:Act} {Q:Exit→Act→World→Prop} (s x:Operand) (t e:TypeId) (z:Value) (size bytes:Nat)
  (hgd:o.guard=none) (ho:o.op=.call { callee:=.builtin .append,args:=#[s,x],argTypes:=#[t,t] }) (ht:P.underlying t=some (.slice e))
  (hinfo:(P.info? e).map (fun i=>(i.zero,i.size,i.bytes))=some (some z,size,bytes)) (hzs:z.cells.size=size) (hsz:0 < size) (hby:0 < bytes)
  {base:Nat} {A:Option Addr} {n c:Nat} {xs:List Value} (hs:a.eval s=.slice A n c) (hown:w.ownsRow base e size (.slice A n c) n xs)
  {A':Option Addr} {m c':Nat} {news:List Value} (hx:a.eval x=.slice A' m c') (hr:Sl w A' news) (hl:news.length=m*size) (h1:∀u ∈ news,u.oneCell'=true)
  (hlim:(n+m)*bytes≤140737488355328) (hbase:base≤w.heap.size)
  (h:∀B k w',w'.ownsRow base e size (.slice B (n+m) k) (n+m) (xs++news)→n+m≤k→Below base w w'→w.grownBy w' (Value.ownBlock (.slice A n c))→(B=A∨B=some ⟨w.heap.size,0,none⟩)→
   wpList P ops Q rest (a.put o.dst (.slice B (n+m) k)) w'):wpList P ops Q (o::rest) a w:=by
 refine wpList_plain hgd fun K hK=>?_
 obtain ⟨B,k,w',hrun,h2,h3,h4,h5,h6⟩:=run_app (P:=P) t o.type e z size bytes ht hinfo hzs hsz hby hown (c':=c') hr hl h1 hlim hbase
 unfold Oper.wp execOp
 simp only [ho,resolve,invoke,builtin,Sem.run_bind,Sem.run_pure,Result.andThen_ok,List.map_toArray,List.map_cons,List.map_nil,hs,hx,hrun]
 exact hK _ _ (h B k w' h2 h3 h4 h5 h6)
end
theorem oneCell_ints (zs:List Int):∀u ∈ zs.map (Value.int .i64),u.oneCell'=true:=by
 intro u hu
 obtain ⟨z,_,rfl⟩:=List.mem_map.1 hu
 rfl
end Go.Proofs.YtkhmjidaeliccaaGreatDoor
namespace Go.Proofs.YtkhmjidaeliccaaGreatDoor.Tl
open Go.RowKit
structure Tlr where
 anc:List Int
 cds:List Int
 lvl:Int
 bef:Bool
def kndT (t:Tlr):Bool:=decide (0≤t.lvl)&&decide (t.lvl≤3)&&(decide (0 < t.lvl) || !t.bef)
def rngT (zs:List Int):Bool:=!zs.isEmpty&&zs.all (fun c=>decide (0≤c)&&decide (c≤1114111))
end Go.Proofs.YtkhmjidaeliccaaGreatDoor.Tl
namespace Go.Proofs.YtkhmjidaeliccaaGreatDoor.Pa
open Go.RowKit Tl
def bt (s:ByteArray) (i:Nat):Nat:=if h:i < s.size then s[i].toNat else 0
theorem bt_lt {s:ByteArray} {i:Nat} (h:i < s.size):bt s i=s[i].toNat:=by unfold bt;rw [dif_pos h]
theorem bt_end {s:ByteArray} {i:Nat} (h:¬i < s.size):bt s i=0:=by unfold bt;rw [dif_neg h]
theorem bt_in {s:ByteArray} {i:Nat} (h:bt s i≠0):i < s.size:=Classical.byContradiction fun g=>h (bt_end g)
theorem bt_256 (s:ByteArray) (i:Nat):bt s i < 256:=by
 unfold bt
 split
 ·exact UInt8.toNat_lt _
 ·decide
abbrev Rd (α:Type):=Except Nat (α × Nat)
def blkN (s:ByteArray):Nat→Nat→Nat
 | 0,i=>i
 | n+1,i=>if bt s i=32∨bt s i=10 then blkN s n (i+1) else i
def skp (s:ByteArray) (i:Nat):Nat:=blkN s (s.size - i) i
theorem blk_step {s:ByteArray} {i:Nat} (h:bt s i=32∨bt s i=10):skp s i=skp s (i+1):=by
 have hi:i < s.size:=bt_in (by omega)
 unfold skp
 rw [show s.size - i=(s.size - (i+1))+1 by omega]
 show (if _ then _ else _)=_
 rw [if_pos h]
theorem blk_stop {s:ByteArray} {i:Nat} (h:¬(bt s i=32∨bt s i=10)):skp s i=i:=by
 unfold skp
 cases s.size - i with
 | zero=>rfl
 | succ n=>show (if _ then _ else _)=_;rw [if_neg h]
theorem blkN_le {s:ByteArray}:∀n i,i≤blkN s n i
 | 0,i=>Nat.le_refl _
 | n+1,i=>by
  unfold blkN
  split
  ·exact Nat.le_trans (Nat.le_succ i) (blkN_le n (i+1))
  ·exact Nat.le_refl _
theorem blkN_sz {s:ByteArray}:∀n i,i≤s.size→blkN s n i≤s.size
 | 0,i,h=>h
 | n+1,i,h=>by
  unfold blkN
  split
  ·next h1=>exact blkN_sz n (i+1) (bt_in (by omega))
  ·exact h
theorem blk_le (s:ByteArray) (i:Nat):i≤skp s i:=blkN_le _ _
theorem blk_sz {s:ByteArray} {i:Nat} (h:i≤s.size):skp s i≤s.size:=blkN_sz _ _ h
def wrd (s:ByteArray):List Nat→Nat→Rd Unit
 | [],i=>.ok ((),i)
 | c::r,i=>if bt s i=c then wrd s r (i+1) else .error i
def dg (b:Nat):Int:=if 48≤b∧b≤57 then (b:Int) - 48 else if 65≤b∧b≤70 then (b:Int) - 55 else -1
theorem dg_bd (b:Nat):-1≤dg b∧dg b≤15:=by unfold dg;split;omega;split <;> omega
theorem dg_in {s:ByteArray} {i:Nat} (h:¬dg (bt s i) < 0):i < s.size:=bt_in (by intro e;rw [e] at h;exact h (by decide))
def four (s:ByteArray):Nat→Int→Nat→Rd Int
 | 0,c,i=>.ok (c,i)
 | n+1,c,i=>if dg (bt s i) < 0 then .error i else four s n (16*c+dg (bt s i)) (i+1)
def moreN (s:ByteArray):Nat→Int→Nat→Int × Nat
 | 0,c,i=>(c,i)
 | n+1,c,i=>if 4096≤c∧0≤dg (bt s i)∧16*c+dg (bt s i)≤1114111 then moreN s n (16*c+dg (bt s i)) (i+1) else (c,i)
def more (s:ByteArray) (c:Int) (i:Nat):Int × Nat:=moreN s (s.size - i) c i
theorem more_step {s:ByteArray} {c:Int} {i:Nat} (h:4096≤c∧0≤dg (bt s i)∧16*c+dg (bt s i)≤1114111):more s c i=more s (16*c+dg (bt s i)) (i+1):=by
 have hi:i < s.size:=dg_in (by omega)
 unfold more
 rw [show s.size - i=(s.size - (i+1))+1 by omega]
 show (if _ then _ else _)=_
 rw [if_pos h]
theorem more_stop {s:ByteArray} {c:Int} {i:Nat} (h:¬(4096≤c∧0≤dg (bt s i)∧16*c+dg (bt s i)≤1114111)):more s c i=(c,i):=by
 unfold more
 cases s.size - i with
 | zero=>rfl
 | succ n=>show (if _ then _ else _)=_;rw [if_neg h]
def code (s:ByteArray) (i:Nat):Rd Int:=
 match four s 4 0 i with
 | .error e=>.error e
 | .ok (c,j)=>.ok (more s c j)
def litN (s:ByteArray):Nat→List Int→Nat→Rd (List Int)
 | 0,a,i=>.ok (a,i)
 | n+1,a,i=>
  if bt s i=32 then
   match code s (i+1) with
   | .error e=>.error e
   | .ok (c,j)=>litN s n (a++[c]) j
  else .ok (a,i)
def lit (s:ByteArray) (i:Nat):Rd (List Int):=
 match wrd s [40] i with
 | .error e=>.error e
 | .ok (_,i1)=>
  match code s i1 with
  | .error e=>.error e
  | .ok (c,i2)=>
   match litN s (s.size - i2) [c] i2 with
   | .error e=>.error e
   | .ok (l,i3)=>
    match wrd s [41] i3 with
    | .error e=>.error e
    | .ok (_,i4)=>.ok (l,skp s i4)
def sgnN (s:ByteArray):Nat→Int→Nat→Int × Nat
 | 0,l,i=>(l,i)
 | n+1,l,i=>if bt s i=60 then sgnN s n (l+1) (i+1) else (l,i)
def sgn (s:ByteArray) (i:Nat):Rd Int:=
 if bt s i=61 then .ok (0,i+1)
 else
  match wrd s [60] i with
  | .error e=>.error e
  | .ok (_,j)=>.ok (sgnN s 2 1 j)
def stpN (s:ByteArray):Nat→List Int→Bool→List Tlr→Nat→Rd (List Tlr)
 | 0,_,_,l,i=>.ok (l,i)
 | n+1,a,b,l,i=>
  match sgn s i with
  | .error e=>.error e
  | .ok (k,j)=>
   match lit s (skp s j) with
   | .error e=>.error e
   | .ok (t,j2)=>if bt s j2=60∨bt s j2=61 then stpN s n t false (l++[⟨a,t,k,b⟩]) j2 else .ok (l++[⟨a,t,k,b⟩],j2)
def chn (s:ByteArray) (l:List Tlr) (i:Nat):Rd (List Tlr):=
 match wrd s [38] i with
 | .error e=>.error e
 | .ok (_,i1)=>
  match (if bt s (skp s i1)=91 then (match wrd s [91,98,101,102,111,114,101,93] (skp s i1) with | .error e=>.error e | .ok (_,j)=>.ok (true,skp s j)) else .ok (false,skp s i1):Rd Bool) with
  | .error e=>.error e
  | .ok (b,i2)=>
   match lit s i2 with
   | .error e=>.error e
   | .ok (a,i3)=>stpN s (s.size+1 - i3) a b l i3
def chsN (s:ByteArray):Nat→List Tlr→Nat→Rd (List Tlr)
 | 0,l,i=>.ok (l,i)
 | n+1,l,i=>
  if i < s.size then
   match chn s l i with
   | .error e=>.error e
   | .ok (l',j)=>chsN s n l' j
  else .ok (l,i)
def parse (s:ByteArray):Rd (List Tlr):=chsN s (s.size - skp s 0) [] (skp s 0)
def parseF (s:ByteArray):List Tlr × Int × Int:=
 if 65536 < s.size then ([],2,0)
 else
  match parse s with
  | .error e=>([],3,e)
  | .ok (l,_)=>(l,0,0)
theorem wrd_ok {s:ByteArray}:∀{l:List Nat} {i j:Nat} {u:Unit},(∀c ∈ l,c≠0)→wrd s l i=.ok (u,j)→j=i+l.length∧(l≠[]→j≤s.size)
 | [],i,j,u,_,h=>by
  injection h with h;injection h with _ h
  subst h
  exact ⟨rfl,fun g=>absurd rfl g⟩
 | c::r,i,j,u,hc,h=>by
  unfold wrd at h
  split at h
  ·next h1=>
   have hi:i < s.size:=bt_in (by rw [h1];exact hc c (by simp))
   obtain ⟨g1,g2⟩:=wrd_ok (fun x hx=>hc x (List.mem_cons_of_mem _ hx)) h
   refine ⟨by rw [g1,List.length_cons];omega,fun _=>?_⟩
   cases r with
   | nil=>simp at g1;omega
   | cons d r=>exact g2 (by simp)
  ·cases h
theorem four_ok {s:ByteArray}:∀{n:Nat} {c d:Int} {i j:Nat},four s n c i=.ok (d,j)→j=i+n∧(0 < n→j≤s.size)
 | 0,c,d,i,j,h=>by
  injection h with h;injection h with _ h
  subst h
  exact ⟨rfl,fun g=>absurd g (by omega)⟩
 | n+1,c,d,i,j,h=>by
  unfold four at h
  split at h
  ·cases h
  ·next h1=>
   have hi:=dg_in h1
   obtain ⟨g1,g2⟩:=four_ok h
   refine ⟨by omega,fun _=>?_⟩
   cases n with
   | zero=>omega
   | succ n=>exact g2 (by omega)
theorem moreN_ok {s:ByteArray}:∀{n:Nat} {c:Int} {i:Nat},i≤s.size→i≤(moreN s n c i).2∧(moreN s n c i).2≤s.size
 | 0,c,i,h=>⟨Nat.le_refl _,h⟩
 | n+1,c,i,h=>by
  unfold moreN
  split
  ·next h1=>
   obtain ⟨g1,g2⟩:=moreN_ok (s:=s) (n:=n) (c:=16*c+dg (bt s i)) (i:=i+1) (dg_in (by omega))
   exact ⟨by omega,g2⟩
  ·exact ⟨Nat.le_refl _,h⟩
theorem code_ok {s:ByteArray} {c:Int} {i j:Nat} (h:code s i=.ok (c,j)):i+4≤j∧j≤s.size:=by
 unfold code at h
 split at h
 ·cases h
 ·next c' k hf=>
  injection h with h
  obtain ⟨g1,g2⟩:=four_ok hf
  have g3:=g2 (by omega)
  have g4:=moreN_ok (s:=s) (n:=s.size - k) (c:=c') g3
  have e:(moreN s (s.size - k) c' k).2=j:=by
   have:more s c' k=(c,j):=h
   unfold more at this
   rw [this]
  omega
theorem litN_ok {s:ByteArray}:∀{n:Nat} {a l:List Int} {i j:Nat},i≤s.size→litN s n a i=.ok (l,j)→i≤j∧j≤s.size
 | 0,a,l,i,j,hi,h=>by
  injection h with h;injection h with _ h
  omega
 | n+1,a,l,i,j,hi,h=>by
  unfold litN at h
  split at h
  ·split at h
   ·cases h
   ·next hc=>
    have g1:=code_ok hc
    have g2:=litN_ok g1.2 h
    omega
  ·injection h with h;injection h with _ h
   omega
theorem lit_ok {s:ByteArray} {l:List Int} {i j:Nat} (h:lit s i=.ok (l,j)):i+6≤j∧j≤s.size:=by
 unfold lit at h
 split at h
 ·cases h
 ·next h1=>
  split at h
  ·cases h
  ·next h2=>
   split at h
   ·cases h
   ·next h3=>
    split at h
    ·cases h
    ·next i4 h4=>
     injection h with h;injection h with _ h
     have g1:=wrd_ok (by simp) h1
     have g2:=code_ok h2
     have g3:=litN_ok g2.2 h3
     have g4:=wrd_ok (by simp) h4
     have g5:=g4.2 (by simp)
     have g6:=blk_le s i4
     have g7:=blk_sz g5
     simp at g1 g4
     omega
theorem sgnN_ok {s:ByteArray}:∀{n:Nat} {l:Int} {i:Nat},i≤s.size→i≤(sgnN s n l i).2∧(sgnN s n l i).2≤s.size
 | 0,l,i,h=>⟨Nat.le_refl _,h⟩
 | n+1,l,i,h=>by
  unfold sgnN
  split
  ·next h1=>
   obtain ⟨g1,g2⟩:=sgnN_ok (s:=s) (n:=n) (l:=l+1) (i:=i+1) (bt_in (by omega))
   exact ⟨by omega,g2⟩
  ·exact ⟨Nat.le_refl _,h⟩
theorem sgn_ok {s:ByteArray} {k:Int} {i j:Nat} (h:sgn s i=.ok (k,j)):i+1≤j∧j≤s.size:=by
 unfold sgn at h
 split at h
 ·next h1=>
  injection h with h;injection h with _ h
  have:=bt_in (s:=s) (i:=i) (by omega)
  omega
 ·split at h
  ·cases h
  ·next u j1 h1=>
   injection h with h
   have g1:=wrd_ok (by simp) h1
   have g2:=g1.2 (by simp)
   have g3:=sgnN_ok (s:=s) (n:=2) (l:=1) g2
   rw [h] at g3
   simp at g1
   dsimp only at g3
   omega
theorem stpN_ok {s:ByteArray}:∀{n:Nat} {a:List Int} {b:Bool} {l m:List Tlr} {i j:Nat},i≤s.size→stpN s n a b l i=.ok (m,j)→i≤j∧j≤s.size
 | 0,a,b,l,m,i,j,hi,h=>by
  injection h with h;injection h with _ h
  omega
 | n+1,a,b,l,m,i,j,hi,h=>by
  unfold stpN at h
  split at h
  ·cases h
  ·next j1 h1=>
   split at h
   ·cases h
   ·next j2 h2=>
    have g1:=sgn_ok h1
    have g2:=lit_ok h2
    have g3:=blk_le s j1
    split at h
    ·have g4:=stpN_ok g2.2 h
     omega
    ·injection h with h;injection h with _ h
     omega
theorem chn_ok {s:ByteArray} {l m:List Tlr} {i j:Nat} (h:chn s l i=.ok (m,j)):i < j∧j≤s.size:=by
 unfold chn at h
 split at h
 ·cases h
 ·next u i1 h1=>
  have g1:=wrd_ok (by simp) h1
  have g2:=blk_le s i1
  split at h
  ·cases h
  ·next b i2 h2=>
   have g3:skp s i1≤i2:=by
    split at h2
    ·split at h2
     ·cases h2
     ·next u j1 h3=>
      injection h2 with h2;injection h2 with _ h2
      have g4:=wrd_ok (by simp) h3
      have g5:=blk_le s j1
      omega
    ·injection h2 with h2;injection h2 with _ h2
     omega
   split at h
   ·cases h
   ·next h4=>
    have g6:=lit_ok h4
    have g7:=stpN_ok g6.2 h
    simp at g1
    omega
end Go.Proofs.YtkhmjidaeliccaaGreatDoor.Pa
namespace Go.Proofs.YtkhmjidaeliccaaGreatDoor.Pa
open Go.RowKit Tl
structure Pre (s s':ByteArray) (e:Nat):Prop where
 sz:s'.size=e
 le:e≤s.size
 eq:∀i,i < e→bt s' i=bt s i
section
variable {s s':ByteArray} {e:Nat}
theorem Pre.z (h:Pre s s' e) {i:Nat} (hi:e≤i):bt s' i=0:=bt_end (by rw [h.sz];omega)
def bfr (s:ByteArray) (i:Nat):Rd Bool:=if bt s i=91 then (match wrd s [91,98,101,102,111,114,101,93] i with | .error e=>.error e | .ok (_,j)=>.ok (true,skp s j)) else .ok (false,i)
theorem bfr_ok {s:ByteArray} {b:Bool} {i j:Nat} (h:bfr s i=.ok (b,j)):i≤j∧(bt s i=91→i < j):=by
 unfold bfr at h
 split at h
 ·next h0=>
  split at h
  ·cases h
  ·next u j1 h1=>
   injection h with h;injection h with _ h
   have g1:=(wrd_ok (by simp) h1).1
   have g2:=blk_le s j1
   simp at g1
   omega
 ·next h0=>
  injection h with h;injection h with _ h
  exact ⟨by omega,fun q=>absurd q h0⟩
theorem chn_eq (s:ByteArray) (l:List Tlr) (i:Nat):chn s l i=match wrd s [38] i with
  | .error e=>.error e
  | .ok (_,i1)=>
   match bfr s (skp s i1) with
   | .error e=>.error e
   | .ok (b,i2)=>
    match lit s i2 with
    | .error e=>.error e
    | .ok (a,i3)=>stpN s (s.size+1 - i3) a b l i3:=rfl
end
end Go.Proofs.YtkhmjidaeliccaaGreatDoor.Pa
namespace Go.Proofs.YtkhmjidaeliccaaGreatDoor.Pa
open Go.RowKit Tl
def hd (d:Int):Int:=if d < 10 then 48+d else 55+d
def hexI (c:Int):List Int:=
 if c < 65536 then [hd (c / 4096),hd (c / 256 % 16),hd (c / 16 % 16),hd (c % 16)]
 else if c < 1048576 then [hd (c / 65536),hd (c / 4096 % 16),hd (c / 256 % 16),hd (c / 16 % 16),hd (c % 16)]
 else [hd (c / 1048576),hd (c / 65536 % 16),hd (c / 4096 % 16),hd (c / 256 % 16),hd (c / 16 % 16),hd (c % 16)]
def codI:List Int→List Int
 | []=>[]
 | [c]=>hexI c
 | c::d::r=>hexI c++32::codI (d::r)
def sgnI (k:Int):List Int:=if k=0 then [61] else if k=1 then [60] else if k=2 then [60,60] else [60,60,60]
def befI (b:Bool):List Int:=if b=true then [91,98,101,102,111,114,101,93,32] else []
def stpI (t:Tlr):List Int:=[38,32]++(befI t.bef++(40::codI t.anc++([41,32]++(sgnI t.lvl++([32,40]++(codI t.cds++[41,10]))))))
def txtI (l:List Tlr):List Int:=l.flatMap stpI
def At (s:ByteArray) (i:Nat) (r:List Int):Prop:=i+r.length=s.size∧∀k,(bt s (i+k):Int)=r.getD k 0
section
variable {s:ByteArray} {i:Nat} {c:Int} {r:List Int}
theorem At.hd (h:At s i (c::r)):(bt s i:Int)=c:=h.2 0
theorem At.tl (h:At s i (c::r)):At s (i+1) r:=⟨by have:=h.1;simp at this;omega,fun k=>by
 have:=h.2 (k+1)
 rw [show i+1+k=i+(k+1) by omega,this]
 rfl⟩
theorem At.nil (h:At s i []):i=s.size:=by have:=h.1;simpa using this
theorem At.app:∀{l:List Int} {i:Nat},At s i (l++r)→At s (i+l.length) r
 | [],i,h=>h
 | c::l,i,h=>by
  have:=At.app (l:=l) (At.tl h)
  rw [show i+1+l.length=i+(c::l).length by simp;omega] at this
  exact this
theorem At.blk1 (h:At s i (c::r)) (hc:c=32∨c=10):skp s i=skp s (i+1):=blk_step (by have:=h.hd;omega)
theorem At.stop (h:At s i (c::r)) (hc:¬(c=32∨c=10)):skp s i=i:=blk_stop (by have:=h.hd;omega)
theorem At.stopE (h:At s i []):skp s i=i:=blk_stop (by rw [bt_end (by have:=h.nil;omega)];decide)
theorem At.wrd:∀{l:List Nat} {i:Nat},At s i (l.map Int.ofNat++r)→wrd s l i=.ok ((),i+l.length)
 | [],i,h=>rfl
 | c::l,i,h=>by
  have h1:bt s i=c:=by have:=At.hd (c:=Int.ofNat c) (r:=l.map Int.ofNat++r) h;exact Int.ofNat.inj this
  unfold Pa.wrd
  rw [if_pos h1,At.wrd (At.tl (r:=l.map Int.ofNat++r) h),List.length_cons]
  rw [show i+1+l.length=i+(l.length+1) by omega]
theorem hd_dg {d:Int} (h0:0≤d) (h1:d < 16) {b:Nat} (hb:(b:Int)=Pa.hd d):dg b=d:=by
 unfold Pa.hd at hb
 unfold dg
 split at hb
 ·rw [if_pos (by omega)];omega
 ·rw [if_neg (by omega),if_pos (by omega)];omega
def Ndg (r:List Int):Prop:=r=[]∨∃c r',r=c::r'∧(c=32∨c=41)
theorem Ndg.dg (hr:Ndg r) (h:At s i r):dg (bt s i)=-1:=by
 rcases hr with rfl | ⟨c,r',rfl,hc⟩
 ·rw [bt_end (by have:=h.nil;omega)];rfl
 ·have:=h.hd
  unfold Pa.dg
  rw [if_neg (by omega),if_neg (by omega)]
theorem four_at {d3 d2 d1 d0:Int} (h3:0≤d3∧d3 < 16) (h2:0≤d2∧d2 < 16) (h1:0≤d1∧d1 < 16) (h0:0≤d0∧d0 < 16) (h:At s i (Pa.hd d3::Pa.hd d2::Pa.hd d1::Pa.hd d0::r)):four s 4 0 i=.ok (d3*4096+d2*256+d1*16+d0,i+4):=by
 have e3:=hd_dg h3.1 h3.2 h.hd
 have e2:=hd_dg h2.1 h2.2 h.tl.hd
 have e1:=hd_dg h1.1 h1.2 h.tl.tl.hd
 have e0:=hd_dg h0.1 h0.2 h.tl.tl.tl.hd
 unfold four
 rw [e3,if_neg (by omega)]
 unfold four
 rw [e2,if_neg (by omega)]
 unfold four
 rw [e1,if_neg (by omega)]
 unfold four
 rw [e0,if_neg (by omega)]
 unfold four
 congr 2
 omega
theorem code_at (hc:0≤c∧c≤1114111) (hr:Ndg r) (h:At s i (hexI c++r)):code s i=.ok (c,i+(hexI c).length):=by
 unfold hexI at h ⊢
 unfold code
 split at h
 ·next h1=>
  rw [if_pos h1]
  have e:=four_at (s:=s) (i:=i) (r:=r) (d3:=c / 4096) (d2:=c / 256 % 16) (d1:=c / 16 % 16) (d0:=c % 16) (by omega) (by omega) (by omega) (by omega) h
  rw [e]
  dsimp only
  have hz:=hr.dg (show At s (i+4) r from h.tl.tl.tl.tl)
  rw [more_stop (by rw [hz];rintro ⟨_,q,_⟩;omega)]
  congr 2
  omega
 ·next h1=>
  split at h
  ·next h2=>
   rw [if_neg h1,if_pos h2]
   have e:=four_at (s:=s) (i:=i) (r:=Pa.hd (c % 16)::r) (d3:=c / 65536) (d2:=c / 4096 % 16) (d1:=c / 256 % 16) (d0:=c / 16 % 16) (by omega) (by omega) (by omega) (by omega) h
   rw [e]
   dsimp only
   have g4:At s (i+4) (Pa.hd (c % 16)::r):=h.tl.tl.tl.tl
   have d4:=hd_dg (by omega) (by omega) g4.hd
   have hz:=hr.dg (show At s (i+4+1) r from g4.tl)
   rw [more_step (by rw [d4];omega),d4,more_stop (by rw [hz];rintro ⟨_,q,_⟩;omega)]
   congr 2
   omega
  ·next h2=>
   rw [if_neg h1,if_neg h2]
   have e:=four_at (s:=s) (i:=i) (r:=Pa.hd (c / 16 % 16)::Pa.hd (c % 16)::r) (d3:=c / 1048576) (d2:=c / 65536 % 16) (d1:=c / 4096 % 16) (d0:=c / 256 % 16) (by omega) (by omega) (by omega) (by omega) h
   rw [e]
   dsimp only
   have g4:At s (i+4) (Pa.hd (c / 16 % 16)::Pa.hd (c % 16)::r):=h.tl.tl.tl.tl
   have d4:=hd_dg (by omega) (by omega) g4.hd
   have d5:=hd_dg (by omega) (by omega) g4.tl.hd
   have hz:=hr.dg (show At s (i+4+1+1) r from g4.tl.tl)
   rw [more_step (by rw [d4];omega),d4,more_step (by rw [d5];omega),d5,more_stop (by rw [hz];rintro ⟨_,q,_⟩;omega)]
   congr 2
   omega
theorem litN_at {n:Nat}:∀{l a:List Int} {i:Nat},(∀c ∈ l,0≤c∧c≤1114111)→l.length≤n→At s i ((l.flatMap fun c=>32::hexI c)++41::r)→litN s n a i=.ok (a++l,i+(l.flatMap fun c=>32::hexI c).length):=by
 induction n with
 | zero=>
  intro l a i _ hn _
  obtain rfl:=List.length_eq_zero_iff.1 (Nat.le_zero.1 hn)
  simp [litN]
 | succ n ih=>
  intro l a i hl hn h
  cases l with
  | nil=>
   have h1:bt s i=41:=by have:=At.hd (r:=r) h;omega
   unfold litN
   rw [if_neg (by omega)]
   simp
  | cons c l=>
   have h0:At s i (32::(hexI c++((l.flatMap fun c=>32::hexI c)++41::r))):=by
    have e:((c::l).flatMap fun c=>32::hexI c)++41::r=32::(hexI c++((l.flatMap fun c=>32::hexI c)++41::r)):=by simp
    rw [←e];exact h
   have h1:bt s i=32:=by have:=h0.hd;omega
   have nd:Ndg ((l.flatMap fun c=>32::hexI c)++41::r):=by
    cases l with
    | nil=>exact .inr ⟨41,r,rfl,.inr rfl⟩
    | cons d l=>exact .inr ⟨32,_,rfl,.inl rfl⟩
   have hc:=code_at (hl c (by simp)) nd h0.tl
   have g:=ih (a:=a++[c]) (fun x hx=>hl x (List.mem_cons_of_mem _ hx)) (by simp at hn;omega) (At.app h0.tl)
   unfold litN
   rw [if_pos h1,hc]
   dsimp only
   rw [g]
   simp
   omega
theorem codI_eq (c:Int):∀l:List Int,codI (c::l)=hexI c++l.flatMap fun c=>32::hexI c
 | []=>by simp [codI]
 | d::l=>by
  show hexI c++32::codI (d::l)=_
  rw [codI_eq d l]
  simp
theorem hexI_len (c:Int):4≤(hexI c).length∧(hexI c).length≤6:=by
 unfold hexI
 split
 ·simp
 ·split <;> simp
theorem fl_len:∀l:List Int,5*l.length≤(l.flatMap fun c=>32::hexI c).length∧(l.flatMap fun c=>32::hexI c).length≤7*l.length
 | []=>by simp
 | c::l=>by
  have h1:=fl_len l
  have h2:=hexI_len c
  rw [List.flatMap_cons,List.length_append,List.length_cons,List.length_cons]
  omega
theorem codI_len (l:List Int):(codI l).length≤7*l.length:=by
 cases l with
 | nil=>simp [codI]
 | cons c l=>
  have h1:=fl_len l
  have h2:=hexI_len c
  rw [codI_eq,List.length_append,List.length_cons]
  omega
theorem lit_at {l:List Int} (hl:rngT l=true) (h:At s i (40::(codI l++41::r))):lit s i=.ok (l,skp s (i+(codI l).length+2))∧At s (i+(codI l).length+2) r:=by
 unfold rngT at hl
 simp only [Bool.and_eq_true,Bool.not_eq_true',List.all_eq_true,decide_eq_true_eq] at hl
 obtain ⟨hne,hok⟩:=hl
 cases l with
 | nil=>simp at hne
 | cons c l=>
  have hs:At s (i+1+(hexI c).length) ((l.flatMap fun c=>32::hexI c)++41::r):=by
   have:=h.tl
   rw [codI_eq,List.append_assoc] at this
   exact At.app this
  have nd:Ndg ((l.flatMap fun c=>32::hexI c)++41::r):=by
   cases l with
   | nil=>exact .inr ⟨41,r,rfl,.inr rfl⟩
   | cons d l=>exact .inr ⟨32,_,rfl,.inl rfl⟩
  have hc:=code_at (hok c (by simp)) nd (show At s (i+1) (hexI c++((l.flatMap fun c=>32::hexI c)++41::r)) from by
   have:=h.tl
   rw [codI_eq,List.append_assoc] at this
   exact this)
  have hw:wrd s [40] i=.ok ((),i+1):=At.wrd (l:=[40]) h
  have hf:=fl_len l
  have hsz:=hs.1
  have hn:=litN_at (n:=s.size - (i+1+(hexI c).length)) (a:=[c]) (fun x hx=>hok x (List.mem_cons_of_mem _ hx)) (by rw [List.length_append] at hsz;simp only [List.length_cons] at hsz;omega) hs
  have ha:=At.app hs
  have hw2:wrd s [41] (i+1+(hexI c).length+(l.flatMap fun c=>32::hexI c).length)=.ok ((),i+1+(hexI c).length+(l.flatMap fun c=>32::hexI c).length+1):=At.wrd (l:=[41]) ha
  have hL:i+1+(hexI c).length+(l.flatMap fun c=>32::hexI c).length+1=i+(codI (c::l)).length+2:=by rw [codI_eq,List.length_append];omega
  refine ⟨?_,?_⟩
  ·unfold lit
   rw [hw]
   dsimp only
   rw [hc]
   dsimp only
   rw [hn]
   dsimp only
   rw [hw2]
   dsimp only
   rw [hL]
   rfl
  ·rw [←hL]
   exact ha.tl
theorem sgn_at {k:Int} (hk:0≤k∧k≤3) (h:At s i (sgnI k++32::r)):∃j,sgn s i=.ok (k,j)∧At s j (32::r):=by
 refine ⟨i+(sgnI k).length,?_,At.app h⟩
 rcases show k=0∨k=1∨k=2∨k=3 by omega with rfl | rfl | rfl | rfl
 ·have h0:bt s i=61:=by have:=At.hd (c:=61) (r:=32::r) h;omega
  unfold sgn
  rw [if_pos h0]
  rfl
 ·have h':At s i (60::32::r):=h
  have h0:bt s i=60:=by have:=h'.hd;omega
  have h1:bt s (i+1)=32:=by have:=h'.tl.hd;omega
  have hw:wrd s [60] i=.ok ((),i+1):=At.wrd (l:=[60]) h'
  unfold sgn
  rw [if_neg (by omega),hw]
  dsimp only
  unfold sgnN
  rw [if_neg (by omega)]
  rfl
 ·have h':At s i (60::60::32::r):=h
  have h0:bt s i=60:=by have:=h'.hd;omega
  have h1:bt s (i+1)=60:=by have:=h'.tl.hd;omega
  have h2:bt s (i+1+1)=32:=by have:=h'.tl.tl.hd;omega
  have hw:wrd s [60] i=.ok ((),i+1):=At.wrd (l:=[60]) h'
  unfold sgn
  rw [if_neg (by omega),hw]
  dsimp only
  unfold sgnN
  rw [if_pos h1]
  unfold sgnN
  rw [if_neg (by omega)]
  rfl
 ·have h':At s i (60::60::60::32::r):=h
  have h0:bt s i=60:=by have:=h'.hd;omega
  have h1:bt s (i+1)=60:=by have:=h'.tl.hd;omega
  have h2:bt s (i+1+1)=60:=by have:=h'.tl.tl.hd;omega
  have hw:wrd s [60] i=.ok ((),i+1):=At.wrd (l:=[60]) h'
  unfold sgn
  rw [if_neg (by omega),hw]
  dsimp only
  unfold sgnN
  rw [if_pos h1]
  unfold sgnN
  rw [if_pos h2]
  unfold sgnN
  rfl
def okT (t:Tlr):Prop:=rngT t.anc=true∧rngT t.cds=true∧kndT t=true
theorem rest_line (l:List Tlr):txtI l=[]∨∃r,txtI l=38::r:=by
 cases l with
 | nil=>exact .inl rfl
 | cons t l=>exact .inr ⟨_,rfl⟩
theorem chn_at {t:Tlr} {l m:List Tlr} (ht:okT t) (h:At s i (stpI t++txtI m)):∃j,chn s l i=.ok (l++[t],j)∧At s j (txtI m):=by
 obtain ⟨h1,h2,h3⟩:=ht
 have hk:0≤t.lvl∧t.lvl≤3:=by
  unfold kndT at h3
  simp only [Bool.and_eq_true,decide_eq_true_eq] at h3
  exact h3.1
 -- the line in parts
 have e:stpI t++txtI m=38::32::(befI t.bef++(40::(codI t.anc++41::(32::(sgnI t.lvl++32::(40::(codI t.cds++41::(10::txtI m)))))))):=by
  unfold stpI
  simp
 rw [e] at h
 have hw:wrd s [38] i=.ok ((),i+1):=At.wrd (l:=[38]) h
 -- before
 have hb:∃i2,bfr s (skp s (i+1))=.ok (t.bef,i2)∧At s i2 (40::(codI t.anc++41::(32::(sgnI t.lvl++32::(40::(codI t.cds++41::(10::txtI m))))))):=by
  rw [At.blk1 h.tl (.inl rfl)]
  have h':=h.tl.tl
  cases hbf:t.bef with
  | false=>
   rw [hbf] at h'
   have h'':At s (i+1+1) (40::(codI t.anc++41::(32::(sgnI t.lvl++32::(40::(codI t.cds++41::(10::txtI m))))))):=h'
   rw [At.stop h'' (by decide)]
   refine ⟨i+1+1,?_,h''⟩
   have:=h''.hd
   unfold bfr
   rw [if_neg (by omega)]
  | true=>
   rw [hbf] at h'
   have h'':At s (i+1+1) (([91,98,101,102,111,114,101,93]:List Nat).map Int.ofNat++32::(40::(codI t.anc++41::(32::(sgnI t.lvl++32::(40::(codI t.cds++41::(10::txtI m)))))))):=h'
   have hw8:=At.wrd h''
   have h8:=At.app h''
   have hh:=At.hd (c:=91) (r:=[98,101,102,111,114,101,93]++32::(40::(codI t.anc++41::(32::(sgnI t.lvl++32::(40::(codI t.cds++41::(10::txtI m)))))))) h''
   rw [At.stop (c:=91) (r:=[98,101,102,111,114,101,93]++32::(40::(codI t.anc++41::(32::(sgnI t.lvl++32::(40::(codI t.cds++41::(10::txtI m)))))))) h'' (by decide)]
   refine ⟨i+1+1+8+1,?_,At.tl h8⟩
   unfold bfr
   rw [if_pos (by omega),hw8]
   dsimp only
   rw [show i+1+1+[91,98,101,102,111,114,101,93].length=i+1+1+8 from rfl]
   have h9:At s (i+1+1+8) (32::(40::(codI t.anc++41::(32::(sgnI t.lvl++32::(40::(codI t.cds++41::(10::txtI m)))))))):=h8
   rw [At.blk1 h9 (.inl rfl),At.stop h9.tl (by decide)]
 obtain ⟨i2,hb,a2⟩:=hb
 obtain ⟨hl,a3⟩:=lit_at h1 a2
 have hl':lit s i2=.ok (t.anc,i2+(codI t.anc).length+2+1):=by
  have hx:∃c r',sgnI t.lvl++32::(40::(codI t.cds++41::(10::txtI m)))=c::r'∧¬(c=32∨c=10):=by
   unfold sgnI
   split
   ·exact ⟨61,_,rfl,by decide⟩
   ·split
    ·exact ⟨60,_,rfl,by decide⟩
    ·split
     ·exact ⟨60,_,rfl,by decide⟩
     ·exact ⟨60,_,rfl,by decide⟩
  obtain ⟨c,r',e1,hc⟩:=hx
  rw [hl,At.blk1 a3 (.inl rfl)]
  have:=a3.tl
  rw [e1] at this
  rw [At.stop this hc]
 have a4:=a3.tl
 generalize i2+(codI t.anc).length+2+1=i3 at *
 obtain ⟨j1,hs,a5⟩:=sgn_at hk a4
 have hb1:skp s j1=j1+1:=by rw [At.blk1 a5 (.inl rfl),At.stop a5.tl (by decide)]
 obtain ⟨hl2,a6⟩:=lit_at h2 a5.tl
 generalize j1+1+(codI t.cds).length+2=j2 at *
 have hb2:skp s j2=j2+1:=by
  rw [At.blk1 a6 (.inr rfl)]
  rcases rest_line m with e2 | ⟨r',e2⟩
  ·have:=a6.tl
   rw [e2] at this
   exact At.stopE this
  ·have:=a6.tl
   rw [e2] at this
   exact At.stop this (by decide)
 refine ⟨j2+1,?_,a6.tl⟩
 have hno:¬(bt s (j2+1)=60∨bt s (j2+1)=61):=by
  have:=a6.tl
  rcases rest_line m with e2 | ⟨r',e2⟩
  ·rw [e2] at this
   rw [bt_end (by have:=this.nil;omega)]
   decide
  ·rw [e2] at this
   have:=this.hd
   omega
 rw [chn_eq,hw]
 dsimp only
 rw [hb]
 dsimp only
 rw [hl']
 dsimp only
 have hfu:∃n,s.size+1 - i3=n+1:=⟨s.size - i3,by have:=a4.1;omega⟩
 obtain ⟨n,hn⟩:=hfu
 rw [hn]
 unfold stpN
 rw [hs]
 dsimp only
 rw [hb1,hl2]
 dsimp only
 rw [hb2,if_neg hno]
end
theorem chsN_at {s:ByteArray}:∀{m:List Tlr} {n:Nat} {l:List Tlr} {i:Nat},(∀t ∈ m,okT t)→m.length≤n→At s i (txtI m)→chsN s n l i=.ok (l++m,s.size)
 | [],n,l,i,_,_,h=>by
  have hi:=At.nil h
  subst hi
  cases n with
  | zero=>simp [chsN]
  | succ n=>unfold chsN;rw [if_neg (by omega)];simp
 | t::m,n,l,i,hm,hn,h=>by
  obtain ⟨n,rfl⟩:∃n',n=n'+1:=⟨n - 1,by simp at hn;omega⟩
  have h':At s i (stpI t++txtI m):=h
  have hi:i < s.size:=by
   have:=h'.1
   unfold stpI at this
   simp at this
   omega
  obtain ⟨j,hj,ha⟩:=chn_at (l:=l) (hm t (by simp)) h'
  unfold chsN
  rw [if_pos hi,hj]
  dsimp only
  rw [chsN_at (fun x hx=>hm x (List.mem_cons_of_mem _ hx)) (by simp at hn;omega) ha]
  simp
theorem txt_long:∀l:List Tlr,l.length≤(txtI l).length
 | []=>by simp [txtI]
 | t::l=>by
  have:=txt_long l
  have e:(txtI (t::l)).length=(stpI t).length+(txtI l).length:=by unfold txtI;rw [List.flatMap_cons,List.length_append]
  have h1:1≤(stpI t).length:=by unfold stpI;simp
  rw [e,List.length_cons]
  omega
theorem parse_txt {s:ByteArray} {l:List Tlr} (h:At s 0 (txtI l)) (hl:∀t ∈ l,okT t):parse s=.ok (l,s.size):=by
 have hb:skp s 0=0:=by
  rcases rest_line l with e | ⟨r,e⟩
  ·rw [e] at h;exact At.stopE h
  ·rw [e] at h;exact At.stop h (by decide)
 unfold parse
 rw [hb]
 have:=h.1
 have h2:=txt_long l
 have:=chsN_at (n:=s.size - 0) (l:=[]) hl (by omega) h
 simpa using this
end Go.Proofs.YtkhmjidaeliccaaGreatDoor.Pa
namespace Go.Proofs.YtkhmjidaeliccaaGreatDoor.Pa
open Go.RowKit Tl
section
variable {s:ByteArray}
theorem four_bd:∀{n:Nat} {c d:Int} {i j:Nat} (B:Int),0≤c→c≤B→four s n c i=.ok (d,j)→0≤d∧d≤16 ^ n*B+(16 ^ n - 1)
 | 0,c,d,i,j,B,h0,hB,h=>by
  injection h with h;injection h with h _
  subst h
  simp
  exact ⟨h0,hB⟩
 | n+1,c,d,i,j,B,h0,hB,h=>by
  unfold four at h
  split at h
  ·cases h
  ·next h1=>
   have hd:=dg_bd (bt s i)
   have g:=four_bd (16*B+15) (by omega) (by omega) h
   refine ⟨g.1,?_⟩
   have e:(16:Int) ^ (n+1)=16 ^ n*16:=Int.pow_succ 16 n
   rw [e]
   have e2:(16:Int) ^ n*(16*B+15)+(16 ^ n - 1)=16 ^ n*16*B+(16 ^ n*16 - 1):=by
    rw [Int.mul_add,Int.mul_assoc];omega
   omega
theorem moreN_bd:∀{n:Nat} {c:Int} {i:Nat},0≤c→c≤1114111→0≤(moreN s n c i).1∧(moreN s n c i).1≤1114111
 | 0,c,i,h0,h1=>⟨h0,h1⟩
 | n+1,c,i,h0,h1=>by
  unfold moreN
  split
  ·next g=>exact moreN_bd (by omega) g.2.2
  ·exact ⟨h0,h1⟩
theorem code_bd {i j:Nat} {c:Int} (h:code s i=.ok (c,j)):0≤c∧c≤1114111:=by
 unfold code at h
 split at h
 ·cases h
 ·next c' k hf=>
  injection h with h
  have g:=four_bd 0 (Int.le_refl _) (Int.le_refl _) hf
  have g2:c'≤65535:=g.2
  have g3:=moreN_bd (s:=s) (n:=s.size - k) (i:=k) g.1 (by omega)
  unfold more at h
  rw [h] at g3
  exact g3
theorem litN_bd:∀{n:Nat} {a l:List Int} {i j:Nat},(∀c ∈ a,0≤c∧c≤1114111)→i≤s.size→litN s n a i=.ok (l,j)→(∀c ∈ l,0≤c∧c≤1114111)∧a.length≤l.length∧l.length+i≤a.length+j
 | 0,a,l,i,j,ha,_,h=>by
  injection h with h;injection h with h h'
  subst h;subst h'
  exact ⟨ha,Nat.le_refl _,Nat.le_refl _⟩
 | n+1,a,l,i,j,ha,hi,h=>by
  unfold litN at h
  split at h
  ·split at h
   ·cases h
   ·next c k hc=>
    have g1:=code_ok hc
    have g2:=code_bd hc
    have g3:=litN_bd (by
     intro x hx
     rcases List.mem_append.1 hx with hx | hx
     ·exact ha x hx
     ·rw [List.mem_singleton.1 hx];exact g2) g1.2 h
    refine ⟨g3.1,?_,?_⟩
    ·have:=g3.2.1;simp at this;omega
    ·have:=g3.2.2;simp at this;omega
  ·injection h with h;injection h with h h'
   subst h;subst h'
   exact ⟨ha,Nat.le_refl _,Nat.le_refl _⟩
theorem lit_bd {l:List Int} {i j:Nat} (h:lit s i=.ok (l,j)):rngT l=true∧l.length+2+i≤j:=by
 unfold lit at h
 split at h
 ·cases h
 ·next h1=>
  split at h
  ·cases h
  ·next c i2 h2=>
   split at h
   ·cases h
   ·next h3=>
    split at h
    ·cases h
    ·next i4 h4=>
     injection h with h;injection h with ha hb
     subst ha
     have g1:=(wrd_ok (by simp) h1).1
     have g2:=code_ok h2
     have g2b:=code_bd h2
     have g3:=litN_bd (by intro x hx;rw [List.mem_singleton.1 hx];exact g2b) g2.2 h3
     have g4:=(wrd_ok (by simp) h4).1
     have g6:=blk_le s i4
     simp at g1 g4 g3
     refine ⟨?_,by omega⟩
     unfold rngT
     simp only [Bool.and_eq_true,Bool.not_eq_true',List.all_eq_true,decide_eq_true_eq]
     refine ⟨?_,g3.1⟩
     cases hl:(List.isEmpty _) with
     | false=>rfl
     | true=>rw [List.isEmpty_iff] at hl;rw [hl] at g3;simp at g3
theorem sgn_bd {k:Int} {i j:Nat} (h:sgn s i=.ok (k,j)):0≤k∧k≤3:=by
 unfold sgn at h
 split at h
 ·injection h with h;injection h with h _
  omega
 ·split at h
  ·cases h
  ·next u j1 h1=>
   injection h with h
   unfold sgnN at h
   split at h
   ·unfold sgnN at h
    split at h
    ·unfold sgnN at h
     injection h with h _
     omega
    ·injection h with h _
     omega
   ·injection h with h _
    omega
def rdT (t:Tlr):Prop:=rngT t.anc=true∧rngT t.cds=true∧0≤t.lvl∧t.lvl≤3
def wS (l:List Tlr):Nat:=(l.map fun t=>t.anc.length+t.cds.length+1).sum
theorem wS_snoc (l:List Tlr) (t:Tlr):wS (l++[t])=wS l+(t.anc.length+t.cds.length+1):=by simp [wS]
theorem stpN_bd:∀{n:Nat} {a:List Int} {b:Bool} {l m:List Tlr} {i j:Nat},rngT a=true→(∀t ∈ l,rdT t)→i≤s.size→stpN s n a b l i=.ok (m,j)→(∀t ∈ m,rdT t)∧wS m+2*i≤wS l+a.length+2*j
 | 0,a,b,l,m,i,j,_,hl,_,h=>by
  injection h with h;injection h with h h'
  subst h;subst h'
  exact ⟨hl,by omega⟩
 | n+1,a,b,l,m,i,j,ha,hl,hi,h=>by
  unfold stpN at h
  split at h
  ·cases h
  ·next k j1 h1=>
   split at h
   ·cases h
   ·next t j2 h2=>
    have g1:=sgn_ok h1
    have g1b:=sgn_bd h1
    have g2:=lit_ok h2
    have g2b:=lit_bd h2
    have g3:=blk_le s j1
    have hl':∀x ∈ l++[(⟨a,t,k,b⟩:Tlr)],rdT x:=by
     intro x hx
     rcases List.mem_append.1 hx with hx | hx
     ·exact hl x hx
     ·rw [List.mem_singleton.1 hx]
      exact ⟨ha,g2b.1,g1b.1,g1b.2⟩
    have hw:wS (l++[(⟨a,t,k,b⟩:Tlr)])=wS l+(a.length+t.length+1):=wS_snoc l _
    split at h
    ·have g4:=stpN_bd g2b.1 hl' g2.2 h
     refine ⟨g4.1,?_⟩
     have:=g4.2
     omega
    ·injection h with h;injection h with h h'
     subst h;subst h'
     exact ⟨hl',by omega⟩
theorem chn_bd {l m:List Tlr} {i j:Nat} (hl:∀t ∈ l,rdT t) (h:chn s l i=.ok (m,j)):(∀t ∈ m,rdT t)∧wS m+2*i≤wS l+2*j:=by
 rw [chn_eq] at h
 split at h
 ·cases h
 ·next u i1 h1=>
  have g1:=(wrd_ok (by simp) h1).1
  have g2:=blk_le s i1
  simp at g1
  split at h
  ·cases h
  ·next b i2 h2=>
   have g3:=(bfr_ok h2).1
   split at h
   ·cases h
   ·next a i3 h3=>
    have g4:=lit_ok h3
    have g4b:=lit_bd h3
    have g5:=stpN_bd g4b.1 hl g4.2 h
    refine ⟨g5.1,?_⟩
    have:=g5.2
    omega
theorem chsN_bd:∀{n:Nat} {l m:List Tlr} {i j:Nat},(∀t ∈ l,rdT t)→chsN s n l i=.ok (m,j)→(∀t ∈ m,rdT t)∧wS m+2*i≤wS l+2*j∧(i≤s.size→j≤s.size)
 | 0,l,m,i,j,hl,h=>by
  injection h with h;injection h with h h'
  subst h;subst h'
  exact ⟨hl,by omega,fun q=>q⟩
 | n+1,l,m,i,j,hl,h=>by
  unfold chsN at h
  split at h
  ·split at h
   ·cases h
   ·next l' k h1=>
    have g1:=chn_bd hl h1
    have g2:=chn_ok h1
    have g3:=chsN_bd g1.1 h
    refine ⟨g3.1,?_,fun _=>g3.2.2 g2.2⟩
    have:=g3.2.1
    have:=g1.2
    omega
  ·injection h with h;injection h with h h'
   subst h;subst h'
   exact ⟨hl,by omega,fun q=>q⟩
theorem parse_bd {l:List Tlr} {j:Nat} (h:parse s=.ok (l,j)):(∀t ∈ l,rdT t)∧wS l≤2*s.size:=by
 have g:=chsN_bd (by intro t ht;cases ht) h
 refine ⟨g.1,?_⟩
 have h1:=g.2.1
 have h2:=g.2.2 (blk_sz (Nat.zero_le _))
 have h3:wS ([]:List Tlr)=0:=rfl
 omega
end
theorem stpI_len (t:Tlr):(stpI t).length≤21+7*(t.anc.length+t.cds.length):=by
 have h1:=codI_len t.anc
 have h2:=codI_len t.cds
 have h3:(befI t.bef).length≤9:=by unfold befI;split <;> simp
 have h4:(sgnI t.lvl).length≤3:=by unfold sgnI;(repeat' split) <;> simp
 unfold stpI
 simp only [List.length_append,List.length_cons,List.length_nil]
 omega
theorem txtI_len:∀l:List Tlr,(txtI l).length≤21*wS l
 | []=>by simp [txtI,wS]
 | t::l=>by
  have h1:=txtI_len l
  have h2:=stpI_len t
  have e:txtI (t::l)=stpI t++txtI l:=rfl
  have e2:wS (t::l)=t.anc.length+t.cds.length+1+wS l:=by simp [wS]
  rw [e,List.length_append,e2]
  omega
def txtErr (l:List Tlr):Int:=if l.all (fun t=>rngT t.anc&&rngT t.cds)=true then (if l.all kndT=true then 0 else 8) else 1
theorem txtErr_0 {l:List Tlr} (h:txtErr l=0):∀t ∈ l,okT t:=by
 unfold txtErr at h
 split at h
 ·next h1=>
  split at h
  ·next h2=>
   intro t ht
   have g1:=List.all_eq_true.1 h1 t ht
   have g2:=List.all_eq_true.1 h2 t ht
   rw [Bool.and_eq_true] at g1
   exact ⟨g1.1,g1.2,g2⟩
  ·cases h
 ·cases h
def oddT (t:Tlr):Bool:=decide (t.lvl=0)&&t.bef
theorem txtErr_rd {l:List Tlr} (h:∀t ∈ l,rdT t):txtErr l=if l.any oddT=true then 8 else 0:=by
 unfold txtErr
 rw [if_pos (List.all_eq_true.2 fun t ht=>by rw [Bool.and_eq_true];exact ⟨(h t ht).1,(h t ht).2.1⟩)]
 by_cases g:l.any oddT=true
 ·rw [if_pos g,if_neg]
  intro g2
  obtain ⟨t,ht,ho⟩:=List.any_eq_true.1 g
  have:=List.all_eq_true.1 g2 t ht
  unfold oddT at ho
  unfold kndT at this
  simp only [Bool.and_eq_true,Bool.or_eq_true,Bool.not_eq_true',decide_eq_true_eq] at ho this
  obtain ⟨h0,hb⟩:=ho
  rcases this.2 with q | q
  ·omega
  ·rw [hb] at q;cases q
 ·rw [if_neg g,if_pos]
  refine List.all_eq_true.2 fun t ht=>?_
  have hn:¬oddT t=true:=fun q=>g (List.any_eq_true.2 ⟨t,ht,q⟩)
  obtain ⟨_,_,h1,h2⟩:=h t ht
  unfold oddT at hn
  unfold kndT
  simp at hn ⊢
  refine ⟨⟨h1,h2⟩,?_⟩
  by_cases q:t.lvl=0
  ·exact .inr (by cases hb:t.bef;rfl;exact absurd hb (by rw [hn q];decide))
  ·exact .inl (by omega)
end Go.Proofs.YtkhmjidaeliccaaGreatDoor.Pa
namespace Go.Proofs.YtkhmjidaeliccaaGreatDoor.Pa
open Go.RowKit Tl
def nH (m:Nat):Nat:=if m < 65536 then 4 else if m < 1048576 then 5 else 6
theorem nH_bd (m:Nat):4≤nH m∧nH m≤6:=by unfold nH;split;omega;split <;> omega
def dgH (m j:Nat):Int:=hd ((m / 16 ^ j % 16:Nat):Int)
def bufI (m i:Nat):List Int:=(List.range 6).map fun k=>if 5 - k < i then dgH m (5 - k) else 0
theorem bufI_len (m i:Nat):(bufI m i).length=6:=by unfold bufI;simp
theorem bufI_set (m i:Nat) (hi:i < 6):(bufI m i).set (5 - i) (dgH m i)=bufI m (i+1):=by
 have h:i=0∨i=1∨i=2∨i=3∨i=4∨i=5:=by omega
 rcases h with rfl | rfl | rfl | rfl | rfl | rfl <;> rfl
theorem dgH_eq (m:Nat):dgH m 0=hd ((m:Int) % 16)∧dgH m 1=hd ((m:Int) / 16 % 16)∧dgH m 2=hd ((m:Int) / 256 % 16)∧dgH m 3=hd ((m:Int) / 4096 % 16)∧dgH m 4=hd ((m:Int) / 65536 % 16)∧dgH m 5=hd ((m:Int) / 1048576 % 16):=by
 unfold dgH
 simp only [Nat.reducePow]
 refine ⟨congrArg hd ?_,congrArg hd ?_,congrArg hd ?_,congrArg hd ?_,congrArg hd ?_,congrArg hd ?_⟩ <;> omega
theorem hexI_buf {m:Nat} (hm:m≤1114111):hexI (m:Int)=(bufI m (nH m)).drop (6 - nH m):=by
 obtain ⟨e0,e1,e2,e3,e4,e5⟩:=dgH_eq m
 unfold hexI nH
 by_cases h1:m < 65536
 ·rw [if_pos (by omega),if_pos h1]
  show _=[dgH m 3,dgH m 2,dgH m 1,dgH m 0]
  rw [e0,e1,e2,e3,show (m:Int) / 4096 % 16=(m:Int) / 4096 by omega]
 ·rw [if_neg (by omega),if_neg h1]
  by_cases h2:m < 1048576
  ·rw [if_pos (by omega),if_pos h2]
   show _=[dgH m 4,dgH m 3,dgH m 2,dgH m 1,dgH m 0]
   rw [e0,e1,e2,e3,e4,show (m:Int) / 65536 % 16=(m:Int) / 65536 by omega]
  ·rw [if_neg (by omega),if_neg h2]
   show _=[dgH m 5,dgH m 4,dgH m 3,dgH m 2,dgH m 1,dgH m 0]
   rw [e0,e1,e2,e3,e4,e5,show (m:Int) / 1048576 % 16=(m:Int) / 1048576 by omega]
theorem nH_stop {m i:Nat} (hm:m≤1114111) (hi:i≤nH m) (h4:4≤i) (h0:m / 16 ^ i=0):i=nH m:=by
 have hb:=nH_bd m
 have h:i=4∨i=5∨i=6:=by omega
 unfold nH at *
 rcases h with rfl | rfl | rfl
 ·have:m < 65536:=by simp only [Nat.reducePow] at h0;omega
  rw [if_pos this]
 ·have:m < 1048576:=by simp only [Nat.reducePow] at h0;omega
  split at hi
  ·omega
  ·rw [if_neg (by assumption),if_pos this]
 ·split at hi
  ·omega
  ·split at hi
   ·omega
   ·rw [if_neg (by assumption),if_neg (by assumption)]
theorem nH_go {m i:Nat} (hi:i < 6) (hn:i≤nH m) (h:¬(4≤i∧m / 16 ^ i=0)):i+1≤nH m:=by
 have hb:=nH_bd m
 by_cases h4:4≤i
 ·have h2:i=4∨i=5:=by omega
  have h0:m / 16 ^ i≠0:=fun e=>h ⟨h4,e⟩
  unfold nH
  rcases h2 with rfl | rfl
  ·have:¬m < 65536:=by simp only [Nat.reducePow] at h0;omega
   rw [if_neg this]
   split <;> omega
  ·have:¬m < 1048576:=by simp only [Nat.reducePow] at h0;omega
   rw [if_neg (by omega),if_neg this]
   exact Nat.le_refl _
 ·omega
def byt (r:List Int):List UInt8:=r.map fun n=>UInt8.ofNat n.toNat
theorem byt_app (r s:List Int):byt (r++s)=byt r++byt s:=by unfold byt;simp
def By8 (r:List Int):Prop:=∀z ∈ r,0≤z∧z < 256
theorem At_str {r:List Int} (h:By8 r):At (strOfNums r) 0 r:=by
 refine ⟨by rw [strOfNums_size];omega,fun k=>?_⟩
 rw [Nat.zero_add]
 by_cases hk:k < r.length
 ·have hs:k < (strOfNums r).size:=by rw [strOfNums_size];exact hk
  rw [bt_lt hs,List.getD_eq_getElem?_getD,List.getElem?_eq_getElem hk]
  have e:(strOfNums r)[k]=UInt8.ofNat r[k].toNat:=by
   show (strOfNums r).data[k]=_
   simp [strOfNums]
  rw [e]
  have h1:=h _ (List.getElem_mem hk)
  simp only [Option.getD_some,UInt8.toNat_ofNat']
  omega
 ·rw [bt_end (by rw [strOfNums_size];exact hk),List.getD_eq_getElem?_getD,List.getElem?_eq_none (by omega)]
  rfl
theorem hd_bd {d:Int} (h:0≤d∧d < 16):0≤hd d∧hd d < 256:=by unfold hd;split <;> omega
theorem By8.app {r s:List Int} (h:By8 r) (g:By8 s):By8 (r++s):=fun z hz=>by
 rcases List.mem_append.1 hz with e | e
 ·exact h z e
 ·exact g z e
theorem hexI_b8 {c:Int} (h:0≤c∧c≤1114111):By8 (hexI c):=by
 intro z hz
 unfold hexI at hz
 split at hz
 ·simp at hz
  rcases hz with rfl | rfl | rfl | rfl <;> exact hd_bd (by omega)
 ·split at hz
  ·simp at hz
   rcases hz with rfl | rfl | rfl | rfl | rfl <;> exact hd_bd (by omega)
  ·simp at hz
   rcases hz with rfl | rfl | rfl | rfl | rfl | rfl <;> exact hd_bd (by omega)
theorem codI_b8:∀{l:List Int},(∀z ∈ l,0≤z∧z≤1114111)→By8 (codI l)
 | [],_=>fun z hz=>by simp [codI] at hz
 | [c],h=>hexI_b8 (h c (by simp))
 | c::d::r,h=>by
  show By8 (hexI c++32::codI (d::r))
  refine (hexI_b8 (h c (by simp))).app (fun z hz=>?_)
  rcases List.mem_cons.1 hz with rfl | e
  ·omega
  ·exact codI_b8 (l:=d::r) (fun z hz=>h z (List.mem_cons_of_mem _ hz)) z e
theorem join_codI:∀l:List Int,Lib.join (l.map fun c=>byt (hexI c)) [32]=byt (codI l)
 | []=>rfl
 | [c]=>by
  show Lib.join [byt (hexI c)] [32]=_
  rw [Lib.join_one];rfl
 | c::d::r=>by
  have ih:=join_codI (d::r)
  show Lib.join (byt (hexI c)::(d::r).map fun c=>byt (hexI c)) [32]=byt (hexI c++32::codI (d::r))
  rw [byt_app,show byt (32::codI (d::r))=32::byt (codI (d::r)) from rfl,←ih]
  simp [Lib.join,List.intercalate]
theorem rng_all {l:List Int} (h:rngT l=true):l≠[]∧∀z ∈ l,0≤z∧z≤1114111:=by
 unfold rngT at h
 simp only [Bool.and_eq_true,Bool.not_eq_true',List.all_eq_true,decide_eq_true_eq] at h
 refine ⟨?_,h.2⟩
 rintro rfl
 simp at h
end Go.Proofs.YtkhmjidaeliccaaGreatDoor.Pa
