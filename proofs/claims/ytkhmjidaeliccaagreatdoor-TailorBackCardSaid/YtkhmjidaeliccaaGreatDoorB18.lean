/- Texts that are merged into one file: TlMem, TxCodes, TlSmall, TlRanged, TlChk, RefMtA, RefMt, RefElems. -/
import Derived.Test.YtkhmjidaeliccaaGreatDoorB02
import Derived.Test.YtkhmjidaeliccaaGreatDoorB03
import Derived.Test.YtkhmjidaeliccaaGreatDoorB04
import Derived.Test.YtkhmjidaeliccaaGreatDoorB05
import Derived.Test.YtkhmjidaeliccaaGreatDoorB10
import Derived.Test.YtkhmjidaeliccaaGreatDoorB12
import Derived.Test.YtkhmjidaeliccaaGreatDoorB13
import Derived.Test.YtkhmjidaeliccaaGreatDoorB14
import Derived.Test.YtkhmjidaeliccaaGreatDoorB15
import Derived.Test.YtkhmjidaeliccaaGreatDoorB16
import Derived.Test.YtkhmjidaeliccaaGreatDoorB17
import Derived.Deep.Cut
import Derived.Deep.AppendLies
import Derived.Deep.DeepCutAuto
set_option maxRecDepth 100000
set_option maxHeartbeats 51200000
namespace Go.Proofs.YtkhmjidaeliccaaGreatDoor
open Go.RowKit Go.Maps Go.WideMaps Tl
def upto {α:Type} (f:α→α) (xs:List α) (i:Nat):List α:=(xs.take i).map f++xs.drop i
section
variable {α:Type} (f:α→α) (xs:List α)
theorem upto_0:upto f xs 0=xs:=by unfold upto;simp
theorem upto_len (i:Nat):(upto f xs i).length=xs.length:=by unfold upto;simp;omega
theorem upto_all {i:Nat} (h:xs.length≤i):upto f xs i=xs.map f:=by unfold upto;rw [List.take_of_length_le h,List.drop_of_length_le h,List.append_nil]
theorem upto_at {i:Nat} (h:i < xs.length) (h':i < (upto f xs i).length):(upto f xs i)[i]=xs[i]:=by
 have e:(upto f xs i)[i]?=xs[i]?:=by
  unfold upto
  rw [List.getElem?_append_right (by simp;omega)]
  simp [Nat.min_eq_left (Nat.le_of_lt h)]
 rw [List.getElem?_eq_getElem h,List.getElem?_eq_getElem h'] at e
 exact Option.some.inj e
theorem upto_set {i:Nat} (h:i < xs.length):(upto f xs i).set i (f xs[i])=upto f xs (i+1):=by
 unfold upto
 rw [List.set_append,if_neg (by simp;omega),List.take_add_one,List.map_append,List.append_assoc,List.getElem?_eq_getElem h]
 have:i - (List.map f (List.take i xs)).length=0:=by simp;omega
 rw [this,List.drop_eq_getElem_cons h]
 rfl
end
theorem upto_last {α:Type} (f:α→α) (xs:List α) (n:Nat) (h:xs.length=n+1) (x:α):(upto f xs n).set n x=(xs.take n).map f++[x]:=by
 unfold upto
 rw [List.set_append,if_neg (by simp;omega)]
 have e1:n - (List.map f (List.take n xs)).length=0:=by simp;omega
 have e2:(xs.drop n).length=1:=by rw [List.length_drop];omega
 rw [e1]
 match hd:xs.drop n with
 | []=>rw [hd] at e2;simp at e2
 | [y]=>rfl
 | _::_::_=>rw [hd] at e2;simp at e2
theorem own_cap {w:World} {base:Nat} {e:TypeId} {size n c:Nat} {A:Option Addr} {xs:List Value} (h:w.ownsRow base e size (.slice A n c) n xs):n≤c:=by
 rcases h.2 with ⟨h1,h2⟩ | ⟨g,cap,cur,h1,_,_,h3,_⟩
 ·omega
 ·injection h1 with _ _ h4;omega
theorem RowE.kept {w w':World} {lo hi q:Nat} {v:Value × Value} {x:Ent} (h:RowE w lo hi v x) (hg:w.grownBy w' (some q)) (hq:q < lo∨hi≤q):RowE w' lo hi v x:=by
 obtain ⟨C,c,E,d,e1,e2,e3,e4,e5,e6⟩:=h
 refine ⟨C,c,E,d,e1,e2.kept hg ?_,e3.kept hg ?_,e4,e5,e6⟩
 ·rw [ownBlock_blk]
  cases hc:blk C with
  | none=>exact .inl rfl
  | some p=>exact .inr (fun e=>by have:=(own_blk e2 hc).1;have:=e4 p hc;injection e with e;omega)
 ·rw [ownBlock_blk]
  cases hc:blk E with
  | none=>exact .inl rfl
  | some p=>exact .inr (fun e=>by have:=(own_blk e3 hc).1;have:=e5 p hc;injection e with e;omega)
structure OpV (w:World) (base z:Nat) (B:Option Addr) (cap:Nat) (vs:List (Value × Value)) (m:Nat→Nat) (top:Nat) (xs:List Ent):Prop where
 len:vs.length=xs.length
 row:w.ownsRow base 75 2 (.slice B xs.length cap) xs.length (flatK enC vs)
 mono:∀i,i < xs.length→m i≤m (i+1)
 mt:m xs.length≤top
 tw:top≤w.heap.size
 bm:∀q,blk B=some q→q < m 0
 zm:z < m 0
 rows:∀i,(hi:i < xs.length)→(hv:i < vs.length)→RowE w (m i) (m (i+1)) vs[i] xs[i]
section
variable {w w':World} {base z:Nat} {B:Option Addr} {cap:Nat} {vs:List (Value × Value)} {m:Nat→Nat} {top:Nat} {xs:List Ent}
theorem CpE.open (h:CpE w base z B cap xs xs.length top):∃vs m,OpV w base z B cap vs m top xs:=by
 obtain ⟨vs,m,h1,h2,h3,h4,h5,h5b,h6,h7,h8⟩:=h.ex
 exact ⟨vs,m,h1,h2,h4,h5,h5b,h6,h7,fun i hi hv=>h8 i hi hi hv⟩
theorem OpV.close (h:OpV w base z B cap vs m top xs):CpE w base z B cap xs xs.length top:=by
 refine ⟨vs,m,h.len,h.row,fun i hi hv=>?_,h.mono,h.mt,h.tw,h.bm,h.zm,fun i _ hi hv=>h.rows i hi hv⟩
 obtain ⟨C,c,E,d,e1,e2,e3,e4,e5,e6⟩:=h.rows i hi hv
 have hm:=mono_up h.mono i (by omega)
 have hz:=h.zm
 refine ⟨C,c,E,d,e1,⟨Sl.of_own e2,fun _ q hq=>⟨fun e=>?_,?_⟩⟩,⟨Sl.of_own e3,fun _ q hq=>⟨fun e=>?_,?_⟩⟩⟩
 ·have:=h.bm q e;have:=(own_blk e2 hq).1;omega
 ·have:=(own_blk e2 hq).1;omega
 ·have:=h.bm q e;have:=(own_blk e3 hq).1;omega
 ·have:=(own_blk e3 hq).1;omega
theorem OpV.below (h:OpV w base z B cap vs m top xs) (hb:Below w.heap.size w w'):OpV w' base z B cap vs m top xs:=
 ⟨h.len,own_keep h.row hb,h.mono,h.mt,Nat.le_trans h.tw hb.size,h.bm,h.zm,fun i hi hv=>(h.rows i hi hv).below hb⟩
theorem OpV.low (h:OpV w base z B cap vs m top xs) {p:Addr} (hp:p.block < base) (v:Value):OpV (w.setCell p v) base z B cap vs m top xs:=by
 refine ⟨h.len,ownsRow_setCell_below h.row hp v,h.mono,h.mt,by simpa using h.tw,h.bm,h.zm,fun i hi hv=>(h.rows i hi hv).set ?_ v⟩
 obtain ⟨g,rfl,hg,_⟩:=own_at h.row (by omega)
 have:=h.bm g rfl
 have:=mono_up h.mono i (by omega)
 omega
theorem OpV.at (h:OpV w base z B cap vs m top xs) {i:Nat} (hi:i < xs.length) (hv:i < vs.length):∃g C c E d,B=some ⟨g,0,none⟩∧base≤g∧g < m 0∧vs[i]=(.slice C xs[i].codes.length c,.slice E xs[i].elems.length d)∧w.cell? ⟨g,i*2,none⟩=some (.slice C xs[i].codes.length c)∧w.cell? ⟨g,i*2+1,none⟩=some (.slice E xs[i].elems.length d):=by
 obtain ⟨g,rfl,hg1,hg2⟩:=own_at h.row (by omega)
 obtain ⟨C,c,E,d,e1,_⟩:=h.rows i hi hv
 have gt:=fun j (hj:j < 2)=>(h.row.cellAt (i*2+j) (by omega)).trans (flatK_get enC 2 (fun _=>rfl) vs i j hv hj)
 exact ⟨g,C,c,E,d,rfl,hg1,h.bm g rfl,e1,(gt 0 (by omega)).trans (by rw [e1];rfl),(gt 1 (by omega)).trans (by rw [e1];rfl)⟩
theorem OpV.elt (h:OpV w base z B cap vs m top xs) {i:Nat} (hi:i < xs.length) (hv:i < vs.length) {C:Option Addr} {n c:Nat} {E:Option Addr} {l d:Nat} (hvi:vs[i]=(.slice C n c,.slice E l d)) {j:Nat} (hj:j < xs[i].elems.length) :
  ∃q,E=some ⟨q,0,none⟩∧base≤q∧m 0≤q∧q < top∧(∀f,f < 4→w.cell? ⟨q,j*4+f,none⟩=xs[i].elems[j].cells[f]?)∧(∀o,w.frozen? ⟨q,o,none⟩=false)∧
   ∀f v e',f < 4→Elt.cells e'=(Elt.cells xs[i].elems[j]).set f v→OpV (w.setCell ⟨q,j*4+f,none⟩ v) base z B cap vs m top (xs.set i ⟨xs[i].codes,xs[i].elems.set j e'⟩):=by
 obtain ⟨C',c',E',d',e1,e2,e3,e4,e5,e6⟩:=h.rows i hi hv
 rw [hvi] at e1
 obtain ⟨e1a,e1b⟩:=Prod.mk.inj e1
 injection e1b with e1b1 e1b2 e1b3
 subst e1b1
 obtain ⟨q,rfl,hq1,hq2⟩:=own_at e3 (by omega)
 have hq3:=e5 q rfl
 have hm0:=mono_up h.mono i (by omega)
 have hup:∀k,i+k≤xs.length→m i≤m (i+k):=fun k=>by
  induction k with
  | zero=>intro _;exact Nat.le_refl _
  | succ k ih=>intro hk;exact Nat.le_trans (ih (by omega)) (h.mono (i+k) (by omega))
 have hup1:∀k,i+1+k≤xs.length→m (i+1)≤m (i+1+k):=fun k=>by
  induction k with
  | zero=>intro _;exact Nat.le_refl _
  | succ k ih=>intro hk;exact Nat.le_trans (ih (by omega)) (h.mono (i+1+k) (by omega))
 have hlast:m (i+1)≤top:=by
  have:=hup1 (xs.length - (i+1)) (by omega)
  rw [show i+1+(xs.length - (i+1))=xs.length by omega] at this
  exact Nat.le_trans this h.mt
 obtain ⟨g,rfl,hg1,hg2⟩:=own_at h.row (by omega)
 have hgm:=h.bm g rfl
 refine ⟨q,rfl,by omega,by omega,by omega,fun f hf=>(e3.cellAt (j*4+f) (by omega)).trans (flatK_get Elt.cells 4 (fun _=>rfl) xs[i].elems j f hj hf),fun o=>e3.frozenAt _,fun f v e' hf he'=>?_⟩
 have hgr:w.grownBy (w.setCell ⟨q,j*4+f,none⟩ v) (some q):=grown_set w ⟨q,j*4+f,none⟩ v
 refine ⟨by simpa using h.len,?_,by simpa using h.mono,by simpa using h.mt,by simpa using h.tw,h.bm,h.zm,fun i' hi' hv'=>?_⟩
 ·have:=h.row.kept hgr (.inr (fun e=>by have e:g=q:=Option.some.inj e;omega))
  simpa using this
 ·by_cases e:i=i'
  ·subst e
   rw [List.getElem_set_self]
   refine ⟨C',c',some ⟨q,0,none⟩,d',by rw [hvi,e1a];simp [e1b2,e1b3],?_,?_,e4,e5,e6⟩
   ·refine e2.kept hgr ?_
    rw [ownBlock_blk]
    cases hc:blk C' with
    | none=>exact .inl rfl
    | some p=>exact .inr (fun e=>by injection e with e;exact e6 p hc (by rw [e];rfl))
   ·have t1:=(e3.stored (j*4+f) v).1
    rw [flatK_set Elt.cells 4 (fun _=>rfl) xs[i].elems j f v e' hj hf he'] at t1
    simpa using t1
  ·rw [List.getElem_set_ne e]
   refine (h.rows i' (by simpa using hi') hv').kept hgr ?_
   by_cases hlt:i' < i
   ·right
    have:=mono_up (m:=fun k=>m (i'+1+k)) (k:=i - (i'+1)) (fun k hk=>h.mono (i'+1+k) (by omega)) (i - (i'+1)) (Nat.le_refl _)
    simp only [Nat.add_zero] at this
    rw [show i'+1+(i - (i'+1))=i by omega] at this
    omega
   ·left
    have hi'':i' < xs.length:=by simpa using hi'
    have:=hup1 (i' - (i+1)) (by omega)
    rw [show i+1+(i' - (i+1))=i' by omega] at this
    omega
end
end Go.Proofs.YtkhmjidaeliccaaGreatDoor
namespace Go.Proofs.YtkhmjidaeliccaaGreatDoor
open Go.RowKit Go.Maps Go.WideMaps Go.Shelf Tl Pa
theorem info_str:(Tryz.prog.info? 9).map (fun i=>(i.zero,i.size,i.bytes))=some (some (.string .empty),1,16):=by kernel_rfl
theorem escValid_any (A:Option Addr) (n k:Nat) (l:List Int) (w:World) (hA:Ints w A l) (hn:l.length=n) (hv:∀z ∈ l,0≤z∧z≤1114111) (hb:n≤1048576):Calls Tryz.prog 135 #[.slice A n k] w (fun e w'=>e=.returned (.bool true)∧w=w'):=by
 subst hn
 have HA:=Lib.hid hA
 have HV:=Lib.hid hv
 clear hA hv
 go_enter Tryz.func135,Tryz.ntmps135
 go_wp2_with fail
 go_loop [7] (fun u=>∃i:Nat,i≤l.length∧u=.int .i64 i) (fun u=>l.length - (intOf u).toNat)
 case atStart=>exact ⟨0,Nat.zero_le _,rfl⟩
 case round=>
  obtain ⟨i,hi,rfl⟩:=hrel
  by_cases hlt:i < l.length
  ·obtain ⟨b,o,rfl,hc⟩:=HA.out.at hlt
   have c0:=hc i hlt
   have hz:=HV.out _ (List.getElem_mem hlt)
   have KV:=Lib.hid (fun W=>cpValid_any l[i] W)
   rw [inR_true hz.1 hz.2] at KV
   clear hc hz
   generalize l[i]=z at *
   go_wp2_with fail
   with_reducible refine (KV.out _).mono ?_
   rintro e W1 ⟨rfl,rfl⟩
   go_wp2_with fail
   go_round
   case rel=>exact ⟨i+1,by omega,by go_num⟩
   case measure=>(try simp [intOf]) <;> (try omega)
  ·obtain rfl:i=l.length:=by omega
   go_wp2_with fail
   go_ret
   exact ⟨rfl,rfl⟩
def hexV (l:List Int):List Value:=l.map fun c=>.string (strOfNums (hexI c))
theorem hexV_snoc {l:List Int} {i:Nat} (hi:i < l.length):hexV (l.take (i+1))=hexV (l.take i)++[.string (strOfNums (hexI l[i]))]:=by
 unfold hexV
 rw [List.take_add_one,List.getElem?_eq_getElem hi,List.map_append]
 rfl
theorem join_hex (l:List Int):(⟨(Lib.join ((l.map fun c=>strOfNums (hexI c)).map (·.data.toList)) (⟨#[32]⟩:ByteArray).data.toList).toArray⟩:ByteArray)=strOfNums (codI l):=by
 rw [List.map_map]
 show (⟨(Lib.join (l.map fun c=>byt (hexI c)) [32]).toArray⟩:ByteArray)=_
 rw [join_codI]
 rfl
theorem codes_any (A:Option Addr) (n k:Nat) (l:List Int) (w:World) (hA:Ints w A l) (hn:l.length=n) (hv:∀z ∈ l,0≤z∧z≤1114111) (hb:n≤65536) (hG:LaidG w):Calls Tryz.prog 76 #[.slice A n k] w (fun e w'=>e=.returned (.tuple #[.string (strOfNums (codI l)),.int .i64 0])∧Below w.heap.size w w'):=by
 subst hn
 have HV:=Lib.hid hv
 have KV:=Lib.hid (escValid_any A l.length k l w hA rfl hv (by omega))
 have KH:=Lib.hid (fun W (hb:Below w.heap.size w W) c (hc:0≤c∧c≤1114111)=>hex_any c W hc (hG.below hb))
 have HI:=Lib.hid (fun W (hb:Below w.heap.size w W)=>hA.below hb)
 have HJ0:=join_hex l
 have HJL0:=(show (Lib.join ((l.map fun c=>strOfNums (hexI c)).map (·.data.toList)) (⟨#[32]⟩:ByteArray).data.toList).length≤140737488355328 from by
  rw [List.map_map]
  show (Lib.join (l.map fun c=>byt (hexI c)) [32]).length≤_
  rw [join_codI]
  unfold byt
  rw [List.length_map]
  have:=codI_len l
  omega)
 have KJ:=Lib.hid (show ∀(W:World) (g c:Nat),(W.ownsRow w.heap.size 9 1 (.slice (some ⟨g,0,none⟩) l.length c) l.length (hexV l))→Calls Tryz.prog 137 #[.slice (some ⟨g,0,none⟩) l.length c,.string ⟨#[32]⟩] W (fun e w'=>e=.returned (.string (strOfNums (codI l)))∧Below W.heap.size W w') from fun W g c ho=>by
  have h:=Any.strings_Join layJ layJX g 0 c (l.map fun c=>strOfNums (hexI c)) (⟨#[32]⟩:ByteArray) W (fun j x hj=>by
   have hjl:j < l.length:=by have:=(List.getElem?_eq_some_iff.1 hj).1;simpa using this
   rw [Nat.zero_add,ho.cellAt j (by omega)]
   unfold hexV
   rw [List.getElem?_map] at hj ⊢
   cases hq:l[j]? with
   | none=>rw [hq] at hj;cases hj
   | some y=>rw [hq] at hj;simp only [Option.map_some,Option.some.injEq] at hj ⊢;rw [hj]) (own_blk ho rfl).2 (by rw [List.length_map];omega) (by rw [List.length_map];exact own_cap ho) HJL0
  rw [HJ0,List.length_map] at h
  exact h)
 have KN:=Lib.hid (show ∀(W:World) (a:Option Addr) (c:Nat),Calls Tryz.prog 137 #[.slice a 0 c,.string ⟨#[32]⟩] W (fun e w'=>e=.returned (.string ⟨#[]⟩)∧w'=W) from fun W a c=>Any.strings_Join_none layJ layJX a c (⟨#[32]⟩:ByteArray) W)
 have HSN:=Lib.hid (fun i (hi:i < l.length)=>hexV_snoc hi)
 unfold RetStr at KH
 clear hA hv hG HJ0 HJL0
 go_enter Tryz.func76,Tryz.ntmps76
 go_wp2_with fail
 with_reducible refine KV.out.mono ?_
 rintro e W1 ⟨rfl,rfl⟩
 clear KV
 go_wp2_with fail
 go_loopw [4,12] (fun u v wr=>∃(i:Nat) (S:Option Addr) (c:Nat),i≤l.length∧v=.int .i64 i∧u=.slice S i c∧wr.ownsRow w.heap.size 9 1 (.slice S i c) i (hexV (l.take i))∧Below w.heap.size w wr) (fun _ v _=>l.length - (intOf v).toNat)
 case atStart=>exact ⟨0,none,0,Nat.zero_le _,rfl,rfl,World.ownsRow_nil _ _ _ _,Below.refl _ _⟩
 case round=>
  obtain ⟨i,S,c,hi,rfl,rfl,hown,hbr⟩:=hrel
  have HOWN:=Lib.hid hown
  have HB:=Lib.hid hbr
  clear hown hbr
  by_cases hlt:i < l.length
  ·obtain ⟨b1,o1,rfl,hcell⟩:=(HI.out wr HB.out).at hlt
   have c1:=hcell i hlt
   have HS:=Lib.hid (HSN.out i hlt)
   have KH1:=Lib.hid (KH.out wr HB.out l[i] (HV.out _ (List.getElem_mem hlt)))
   have hii:(i:Int) < (l.length:Int):=by omega
   clear hcell
   generalize l[i]=z at *
   go_wp2_with fail
   with_reducible refine KH1.out.mono ?_
   rintro e W2 ⟨rfl,hb2⟩
   have HB2:=Lib.hid (HB.out.trans (hb2.mono HB.out.size))
   have HO2:=Lib.hid (own_keep HOWN.out hb2)
   generalize strOfNums (hexI z)=nm at *
   have Bp:Below W2.heap.size W2 (W2.alloc (.cells #[.string nm] 9)):=(Below.refl _ _).alloc (Nat.le_refl _) _
   have HOP:=Lib.hid (own_keep HO2.out Bp)
   have szp:w.heap.size≤(W2.alloc (.cells #[.string nm] 9)).heap.size:=Nat.le_trans HB2.out.size Bp.size
   have HB9:=Lib.hid (HB2.out.trans (Bp.mono HB2.out.size))
   clear Bp hb2 KH1 c1
   go_wp2_with (at_builtin;refine wpList_app _ _ 132 9 (.string .empty) 1 16 rfl rfl Tryz.underlying132 info_str rfl (by decide) (by decide) rfl HOP.out rfl (Sl_new _ [.string nm] _ rfl) rfl (by intro u hu;simp at hu;rw [hu];rfl) (by omega) szp ?_;intro A7 c7 w7 hown7 hc7 hb7 hgr7 hAA7;clear hgr7 hAA7;have HO7:=Lib.hid hown7;have HB7:=Lib.hid hb7;clear hown7 hb7)
   go_wp2_with fail
   go_roundw
   case rel=>
    refine ⟨i+1,A7,c7,by omega,by go_num,rfl,?_,HB9.out.trans HB7.out⟩
    rw [HS.out]
    exact HO7.out
   case measure=>(try simp [intOf]) <;> (try omega)
  ·obtain rfl:i=l.length:=by omega
   have ho:=HOWN.out
   rw [List.take_length] at ho
   have HO:=Lib.hid ho
   clear ho
   by_cases h0:l.length=0
   ·obtain rfl:l=[]:=List.length_eq_zero_iff.1 h0
    clear h0
    go_wp2_with fail
    with_reducible refine (KN.out _ _ _).mono ?_
    rintro e W2 ⟨rfl,rfl⟩
    go_wp2_with fail
    go_ret2
    exact ⟨rfl,HB.out⟩
   ·obtain ⟨g,rfl,hg1,hg2⟩:=own_at HO.out (by omega)
    have KJ1:=Lib.hid (KJ.out wr g c HO.out)
    clear h0 hg1 hg2 KJ KN
    go_wp2_with fail
    with_reducible refine KJ1.out.mono ?_
    rintro e W2 ⟨rfl,hb2⟩
    have HB2:=Lib.hid (HB.out.trans (hb2.mono HB.out.size))
    clear hb2
    go_wp2_with fail
    go_ret2
    exact ⟨rfl,HB2.out⟩
end Go.Proofs.YtkhmjidaeliccaaGreatDoor
namespace Go.Proofs.YtkhmjidaeliccaaGreatDoor
open Go.RowKit Go.Maps Go.WideMaps Tl
theorem known_ok_any (A:Option Addr) (na ca:Nat) (B:Option Addr) (nb cb:Nat) (t:Tlr) (w:World) :
  Calls Tryz.prog 74 #[.agg #[.slice A na ca,.slice B nb cb,.int .i64 t.lvl,.bool t.bef]] w (RetInt (if kndT t=true then 0 else 8) w):=by
 obtain ⟨an,cd,lvl,bef⟩:=t
 have HE0:=Lib.hid (show kndT ⟨an,cd,lvl,bef⟩=(decide (0≤lvl)&&decide (lvl≤3)&&(decide (0 < lvl) || !bef)) from rfl)
 have B0:Below w.heap.size w (w.alloc (.cells #[.slice A na ca,.slice B nb cb,.int .i64 lvl,.bool bef] 35)):=(Below.refl _ _).alloc (Nat.le_refl _) _
 obtain ⟨r,hr⟩:∃r:Int,(if kndT ⟨an,cd,lvl,bef⟩=true then 0 else 8)=r:=⟨_,rfl⟩
 have HE:=Lib.hid (show ∀b,(decide (0≤lvl)&&decide (lvl≤3)&&(decide (0 < lvl) || !bef))=b→r=if b=true then 0 else 8 from fun b hb=>by rw [←hr,HE0.out,hb])
 rw [hr]
 clear hr HE0
 dsimp only
 by_cases h1:lvl < 0
 ·have d1:decide (lvl < 0)=true:=by simpa using h1
  have HK:=Lib.hid (show r=8 from HE.out false (by rw [decide_eq_false (by omega:¬0≤lvl)];rfl))
  clear HE
  go_enter Tryz.func74,Tryz.ntmps74
  go_wp2_with fail
  go_ret
  rw [HK.out]
  exact ⟨rfl,B0⟩
 ·have d1:decide (lvl < 0)=false:=by simpa using h1
  by_cases h2:3 < lvl
  ·have d2:decide (3 < lvl)=true:=by simpa using h2
   have HK:=Lib.hid (show r=8 from HE.out false (by rw [decide_eq_false (by omega:¬lvl≤3),Bool.and_false];rfl))
   clear HE
   go_enter Tryz.func74,Tryz.ntmps74
   go_wp2_with fail
   go_ret
   rw [HK.out]
   exact ⟨rfl,B0⟩
  ·have d2:decide (3 < lvl)=false:=by simpa using h2
   have HE2:=Lib.hid (show ∀b,(decide (0 < lvl) || !bef)=b→r=if b=true then 0 else 8 from fun b hb=>HE.out b (by rw [decide_eq_true (by omega:0≤lvl),decide_eq_true (by omega:lvl≤3)];exact hb))
   clear HE
   cases bef with
   | false=>
    have HK:=Lib.hid (show r=0 from HE2.out true (by simp))
    clear HE2
    go_enter Tryz.func74,Tryz.ntmps74
    go_wp2_with fail
    go_ret
    rw [HK.out]
    exact ⟨rfl,B0⟩
   | true=>
    by_cases h3:lvl=0
    ·have d3:(lvl==0)=true:=by simpa using h3
     have HK:=Lib.hid (show r=8 from HE2.out false (by rw [decide_eq_false (by omega:¬0 < lvl)];rfl))
     clear HE2 h3
     go_enter Tryz.func74,Tryz.ntmps74
     go_wp2_with fail
     go_ret
     rw [HK.out]
     exact ⟨rfl,B0⟩
    ·have d3:(lvl==0)=false:=by simpa using h3
     have HK:=Lib.hid (show r=0 from HE2.out true (by rw [decide_eq_true (by omega:0 < lvl)];rfl))
     clear HE2
     go_enter Tryz.func74,Tryz.ntmps74
     go_wp2_with fail
     go_ret
     rw [HK.out]
     exact ⟨rfl,B0⟩
theorem weight_any (e:Elt) (k:Int) (hk:k=1∨k=2∨k=3) (w:World) :
  Calls Tryz.prog 39 #[.agg #[.int .i64 e.p,.int .i64 e.s,.int .i64 e.t,.bool e.v],.int .i64 k] w (RetInt (wt k e) w):=by
 obtain ⟨p,s,t,v⟩:=e
 have x0:=fun W=>(idx3 (.int .i64 p) (.int .i64 s) (.int .i64 t) W).1
 have x1:=fun W=>(idx3 (.int .i64 p) (.int .i64 s) (.int .i64 t) W).2.1
 have x2:=fun W=>(idx3 (.int .i64 p) (.int .i64 s) (.int .i64 t) W).2.2
 have BEL:=Lib.hid ((Below.refl w.heap.size w).alloc (Nat.le_refl _) (.cells #[.int .i64 p,.int .i64 s,.int .i64 t,.bool v] 77))
 dsimp only
 rcases hk with rfl | rfl | rfl
 ·go_enter Tryz.func39,Tryz.ntmps39
  go_wp2_with fail
  go_ret
  exact ⟨rfl,BEL.out⟩
 ·go_enter Tryz.func39,Tryz.ntmps39
  go_wp2_with fail
  go_ret
  exact ⟨rfl,BEL.out⟩
 ·go_enter Tryz.func39,Tryz.ntmps39
  go_wp2_with fail
  go_ret
  exact ⟨rfl,BEL.out⟩
theorem raised_any (z:Int) (b:Bool) (x:Int) (w:World) (hx:0≤x∧x≤1000000):Calls Tryz.prog 92 #[.agg #[.int .i64 z,.bool b],.int .i64 x] w (RetInt (mvd (lst z b) x) w):=by
 have BEL:=Lib.hid ((Below.refl w.heap.size w).alloc (Nat.le_refl _) (.cells #[.int .i64 z,.bool b] 85))
 obtain ⟨hx0,hx1⟩:=hx
 obtain ⟨r,hr⟩:∃r,mvd (lst z b) x=r:=⟨_,rfl⟩
 have HR:=Lib.hid (show r=if lst z b≤x then x+1 else x from hr.symm)
 rw [hr]
 clear hr
 by_cases h1:z < x
 ·have d1:decide (z < x)=true:=by simpa using h1
  have HF:=Lib.hid (show r=x+1 from by rw [HR.out,if_pos (by unfold lst;split <;> omega)])
  clear HR
  go_enter Tryz.func92,Tryz.ntmps92
  go_wp2_with fail
  go_ret
  rw [HF.out]
  exact ⟨rfl,BEL.out⟩
 ·have d1:decide (z < x)=false:=by simpa using h1
  cases b with
  | false=>
   have HF:=Lib.hid (show r=x from by rw [HR.out,if_neg (by unfold lst;rw [if_neg (by decide)];omega)])
   clear HR
   go_enter Tryz.func92,Tryz.ntmps92
   go_wp2_with fail
   go_ret
   rw [HF.out]
   exact ⟨rfl,BEL.out⟩
  | true=>
   by_cases h2:x=z
   ·have d2:(x==z)=true:=by simpa using h2
    have HF:=Lib.hid (show r=x+1 from by rw [HR.out,if_pos (by unfold lst;rw [if_pos rfl];omega)])
    clear HR h2
    go_enter Tryz.func92,Tryz.ntmps92
    go_wp2_with fail
    go_ret
    rw [HF.out]
    exact ⟨rfl,BEL.out⟩
   ·have d2:(x==z)=false:=by simpa using h2
    have HF:=Lib.hid (show r=x from by rw [HR.out,if_neg (by unfold lst;rw [if_pos rfl];omega)])
    clear HR
    go_enter Tryz.func92,Tryz.ntmps92
    go_wp2_with fail
    go_ret
    rw [HF.out]
    exact ⟨rfl,BEL.out⟩
theorem own_any (z:Int) (b:Bool) (w:World) (hx:0≤z∧z≤1000000):Calls Tryz.prog 95 #[.agg #[.int .i64 z,.bool b]] w (RetInt (lst z b) w):=by
 have BEL:=Lib.hid ((Below.refl w.heap.size w).alloc (Nat.le_refl _) (.cells #[.int .i64 z,.bool b] 85))
 obtain ⟨hx0,hx1⟩:=hx
 cases b with
 | false=>
  go_enter Tryz.func95,Tryz.ntmps95
  go_wp2_with fail
  go_ret
  exact ⟨rfl,BEL.out⟩
 | true=>
  go_enter Tryz.func95,Tryz.ntmps95
  go_wp2_with fail
  go_ret
  exact ⟨rfl,BEL.out⟩
theorem primary_any (z:Int) (b:Bool) (d o:Nat) (x:Int) (w:World) (hx:0≤x∧x≤1000000) (hc:w.cell? ⟨d,o,none⟩=some (.int .i64 x)) (hf:w.frozen? ⟨d,o,none⟩=false) :
  Calls Tryz.prog 91 #[.agg #[.int .i64 z,.bool b],.pointer (some ⟨d,o,none⟩)] w fun e w'=>e=.returned (.tuple #[])∧∃w1,Below w.heap.size w w1∧w'=w1.setCell ⟨d,o,none⟩ (.int .i64 (mvd (lst z b) x)):=by
 have hd:d < w.heap.size:=World.block_lt_of_cell? w ⟨d,o,none⟩ hc
 have B0:Below w.heap.size w (w.alloc (.cells #[.int .i64 z,.bool b] 85)):=(Below.refl _ _).alloc (Nat.le_refl _) _
 have X0:Box (w.alloc (.cells #[.int .i64 z,.bool b] 85)) w.heap.size 85 [.int .i64 z,.bool b]:=Box.new _ _ _ rfl
 have W0E:∃W0,(w.alloc (.cells #[.int .i64 z,.bool b] 85))=W0:=⟨_,rfl⟩
 have KR:=Lib.hid (fun W=>raised_any z b x W hx)
 unfold RetInt at KR
 obtain ⟨y,hy⟩:∃y,mvd (lst z b) x=y:=⟨_,rfl⟩
 rw [hy] at KR ⊢
 clear hy hx
 go_enter Tryz.func91,Tryz.ntmps91
 go_upto_region 1 with (fail)
 obtain ⟨W0,hW0⟩:=W0E
 try rw [hW0] at B0 X0 ⊢
 clear hW0
 have c0:=X0.cell (i:=0) rfl
 have c1:=X0.cell (i:=1) rfl
 have l0:=X0.lt
 have c2:=(B0.cell (p:=⟨d,o,none⟩) hd).trans hc
 have c3:=(B0.frozen (p:=⟨d,o,none⟩) hd).trans hf
 have hd0:d < W0.heap.size:=by have:=B0.size;omega
 have KR2:=Lib.hid (fun W=>KR.out W)
 clear hc hf X0 KR
 go_region_with (go_at_call 92;refine (KR2.out _).mono ?_;rintro e w2 ⟨rfl,hb2⟩;have g2:=(hb2.cell (p:=⟨d,o,none⟩) hd0).trans c2;have g3:=(hb2.frozen (p:=⟨d,o,none⟩) hd0).trans c3)
 all_goals (
  have hbf:=B0.trans (((show Below W0.heap.size W0 W0.drew from (Below.refl _ _).drew).trans hb2).mono B0.size)
  clear hb2 g2 g3 c0 c1 c2 c3 KR2
  go_wp2_with fail
  go_end0
  exact ⟨rfl,_,hbf,rfl⟩)
theorem secondary_any (z:Int) (b:Bool) (d o:Nat) (x:Int) (w:World) (hx:0≤x∧x≤1000000) (hc:w.cell? ⟨d,o+1,none⟩=some (.int .i64 x)) (hf:w.frozen? ⟨d,o+1,none⟩=false) :
  Calls Tryz.prog 93 #[.agg #[.int .i64 z,.bool b],.pointer (some ⟨d,o,none⟩)] w fun e w'=>e=.returned (.tuple #[])∧∃w1,Below w.heap.size w w1∧w'=w1.setCell ⟨d,o+1,none⟩ (.int .i64 (mvd (lst z b) x)):=by
 have hd:d < w.heap.size:=World.block_lt_of_cell? w ⟨d,o+1,none⟩ hc
 have B0:Below w.heap.size w (w.alloc (.cells #[.int .i64 z,.bool b] 85)):=(Below.refl _ _).alloc (Nat.le_refl _) _
 have X0:Box (w.alloc (.cells #[.int .i64 z,.bool b] 85)) w.heap.size 85 [.int .i64 z,.bool b]:=Box.new _ _ _ rfl
 have W0E:∃W0,(w.alloc (.cells #[.int .i64 z,.bool b] 85))=W0:=⟨_,rfl⟩
 have KR:=Lib.hid (fun W=>raised_any z b x W hx)
 unfold RetInt at KR
 obtain ⟨y,hy⟩:∃y,mvd (lst z b) x=y:=⟨_,rfl⟩
 rw [hy] at KR ⊢
 clear hy hx
 go_enter Tryz.func93,Tryz.ntmps93
 go_upto_region 1 with (fail)
 obtain ⟨W0,hW0⟩:=W0E
 try rw [hW0] at B0 X0 ⊢
 clear hW0
 have c0:=X0.cell (i:=0) rfl
 have c1:=X0.cell (i:=1) rfl
 have l0:=X0.lt
 have c2:=(B0.cell (p:=⟨d,o+1,none⟩) hd).trans hc
 have c3:=(B0.frozen (p:=⟨d,o+1,none⟩) hd).trans hf
 have hd0:d < W0.heap.size:=by have:=B0.size;omega
 have KR2:=Lib.hid (fun W=>KR.out W)
 clear hc hf X0 KR
 go_region_with (go_at_call 92;refine (KR2.out _).mono ?_;rintro e w2 ⟨rfl,hb2⟩;have g2:=(hb2.cell (p:=⟨d,o+1,none⟩) hd0).trans c2;have g3:=(hb2.frozen (p:=⟨d,o+1,none⟩) hd0).trans c3)
 all_goals (
  have hbf:=B0.trans (((show Below W0.heap.size W0 W0.drew from (Below.refl _ _).drew).trans hb2).mono B0.size)
  clear hb2 g2 g3 c0 c1 c2 c3 KR2
  go_wp2_with fail
  go_end0
  exact ⟨rfl,_,hbf,rfl⟩)
theorem tertiary_any (z:Int) (b:Bool) (d o:Nat) (x:Int) (w:World) (hx:0≤x∧x≤1000000) (hc:w.cell? ⟨d,o+2,none⟩=some (.int .i64 x)) (hf:w.frozen? ⟨d,o+2,none⟩=false) :
  Calls Tryz.prog 94 #[.agg #[.int .i64 z,.bool b],.pointer (some ⟨d,o,none⟩)] w fun e w'=>e=.returned (.tuple #[])∧∃w1,Below w.heap.size w w1∧w'=w1.setCell ⟨d,o+2,none⟩ (.int .i64 (mvd (lst z b) x)):=by
 have hd:d < w.heap.size:=World.block_lt_of_cell? w ⟨d,o+2,none⟩ hc
 have B0:Below w.heap.size w (w.alloc (.cells #[.int .i64 z,.bool b] 85)):=(Below.refl _ _).alloc (Nat.le_refl _) _
 have X0:Box (w.alloc (.cells #[.int .i64 z,.bool b] 85)) w.heap.size 85 [.int .i64 z,.bool b]:=Box.new _ _ _ rfl
 have W0E:∃W0,(w.alloc (.cells #[.int .i64 z,.bool b] 85))=W0:=⟨_,rfl⟩
 have KR:=Lib.hid (fun W=>raised_any z b x W hx)
 unfold RetInt at KR
 obtain ⟨y,hy⟩:∃y,mvd (lst z b) x=y:=⟨_,rfl⟩
 rw [hy] at KR ⊢
 clear hy hx
 go_enter Tryz.func94,Tryz.ntmps94
 go_upto_region 1 with (fail)
 obtain ⟨W0,hW0⟩:=W0E
 try rw [hW0] at B0 X0 ⊢
 clear hW0
 have c0:=X0.cell (i:=0) rfl
 have c1:=X0.cell (i:=1) rfl
 have l0:=X0.lt
 have c2:=(B0.cell (p:=⟨d,o+2,none⟩) hd).trans hc
 have c3:=(B0.frozen (p:=⟨d,o+2,none⟩) hd).trans hf
 have hd0:d < W0.heap.size:=by have:=B0.size;omega
 have KR2:=Lib.hid (fun W=>KR.out W)
 clear hc hf X0 KR
 go_region_with (go_at_call 92;refine (KR2.out _).mono ?_;rintro e w2 ⟨rfl,hb2⟩;have g2:=(hb2.cell (p:=⟨d,o+2,none⟩) hd0).trans c2;have g3:=(hb2.frozen (p:=⟨d,o+2,none⟩) hd0).trans c3)
 all_goals (
  have hbf:=B0.trans (((show Below W0.heap.size W0 W0.drew from (Below.refl _ _).drew).trans hb2).mono B0.size)
  clear hb2 g2 g3 c0 c1 c2 c3 KR2
  go_wp2_with fail
  go_end0
  exact ⟨rfl,_,hbf,rfl⟩)
end Go.Proofs.YtkhmjidaeliccaaGreatDoor
namespace Go.Proofs.YtkhmjidaeliccaaGreatDoor
open Go.RowKit Go.Maps Go.WideMaps Tl
theorem rngT_bad {zs:List Int} {k:Nat} (hk:k < zs.length) (h:¬(0≤zs[k]∧zs[k]≤1114111)):rngT zs=false:=by
 unfold rngT
 rw [Bool.and_eq_false_iff]
 right
 rw [List.all_eq_false]
 exact ⟨zs[k],List.getElem_mem hk,by simpa using h⟩
theorem rngT_good {zs:List Int} (h0:0 < zs.length) (h:∀k,(hk:k < zs.length)→0≤zs[k]∧zs[k]≤1114111):rngT zs=true:=by
 unfold rngT
 rw [Bool.and_eq_true]
 refine ⟨?_,?_⟩
 ·cases zs with
  | nil=>simp at h0
  | cons z r=>rfl
 ·rw [List.all_eq_true]
  intro z hz
  obtain ⟨k,hk,rfl⟩:=List.getElem_of_mem hz
  simpa using h k hk
theorem ranged_any (A:Option Addr) (na ca:Nat) (B:Option Addr) (nb cb:Nat) (t:Tlr) (w:World) (hA:Ints w A t.anc) (hB:Ints w B t.cds) (hna:t.anc.length=na) (hnb:t.cds.length=nb) (hba:na≤1048576) (hbb:nb≤1048576) :
  Calls Tryz.prog 73 #[.agg #[.slice A na ca,.slice B nb cb,.int .i64 t.lvl,.bool t.bef]] w (RetInt (if (rngT t.anc&&rngT t.cds)=true then 0 else 1) w):=by
 subst hna;subst hnb
 obtain ⟨r,hr⟩:∃r:Int,(if (rngT t.anc&&rngT t.cds)=true then 0 else 1)=r:=⟨_,rfl⟩
 have HR:=Lib.hid (show ∀a b,rngT t.anc=a→rngT t.cds=b→r=if (a&&b)=true then 0 else 1 from fun a b ha hb=>by rw [←hr,ha,hb])
 rw [hr]
 have B0:Below w.heap.size w ((w.alloc (.cells #[.slice A t.anc.length ca,.slice B t.cds.length cb,.int .i64 t.lvl,.bool t.bef] 35)).alloc (.cells #[.slice A t.anc.length ca,.slice B t.cds.length cb] 33)):=((Below.refl _ _).alloc (Nat.le_refl _) _).alloc (by simp) _
 have X1:Box ((w.alloc (.cells #[.slice A t.anc.length ca,.slice B t.cds.length cb,.int .i64 t.lvl,.bool t.bef] 35)).alloc (.cells #[.slice A t.anc.length ca,.slice B t.cds.length cb] 33)) (w.heap.size+1) 33 [.slice A t.anc.length ca,.slice B t.cds.length cb]:=Box.new _ _ _ (by simp)
 have W0E:∃W0,((w.alloc (.cells #[.slice A t.anc.length ca,.slice B t.cds.length cb,.int .i64 t.lvl,.bool t.bef] 35)).alloc (.cells #[.slice A t.anc.length ca,.slice B t.cds.length cb] 33))=W0:=⟨_,rfl⟩
 have BA:=Lib.hid (fun k (hk:k < t.anc.length) h=>rngT_bad (zs:=t.anc) hk h)
 have GA:=Lib.hid (fun h0 h=>rngT_good (zs:=t.anc) h0 h)
 have BB:=Lib.hid (fun k (hk:k < t.cds.length) h=>rngT_bad (zs:=t.cds) hk h)
 have GB:=Lib.hid (fun h0 h=>rngT_good (zs:=t.cds) h0 h)
 have EA:=Lib.hid (fun (h:t.anc.length=0)=>show rngT t.anc=false from by rw [List.length_eq_zero_iff.1 h];rfl)
 have EB:=Lib.hid (fun (h:t.cds.length=0)=>show rngT t.cds=false from by rw [List.length_eq_zero_iff.1 h];rfl)
 have HIA:=Lib.hid (fun W (hb:Below w.heap.size w W)=>hA.below hb)
 have HIB:=Lib.hid (fun W (hb:Below w.heap.size w W)=>hB.below hb)
 generalize rngT t.anc=ra at *
 generalize rngT t.cds=rb at *
 clear hr hA hB
 obtain ⟨an,cd,lvl,bef⟩:=t
 dsimp only at *
 go_enter Tryz.func73,Tryz.ntmps73
 go_upto_region 2 with (fail)
 obtain ⟨W0,hW0⟩:=W0E
 try rw [hW0] at B0 X1 ⊢
 clear hW0
 have IA:=Lib.hid (HIA.out W0 B0)
 have IB:=Lib.hid (HIB.out W0 B0)
 clear HIA HIB
 have HX:=Lib.hid X1
 have HB0:=Lib.hid B0
 clear X1 B0
 go_wp2_with fail
 go_loop [13] (fun u=>∃i:Nat,i≤2∧u=.int .i64 i∧(0 < i→ra=true)∧(1 < i→rb=true)) (fun u=>2 - (intOf u).toNat)
 case atStart=>exact ⟨0,by decide,rfl,fun h=>absurd h (by decide),fun h=>absurd h (by decide)⟩
 case round=>
  obtain ⟨i,hi,rfl,h1,h2⟩:=hrel
  rcases show i=0∨i=1∨i=2 by omega with rfl | rfl | rfl
  ·have cx:=HX.out.cell (i:=0) rfl
   have H1:=Lib.hid h1
   clear h1 h2
   by_cases h0:an.length=0
   ·have HF:=Lib.hid (show r=1 from by rw [HR.out false rb (EA.out h0) rfl];rfl)
    have d0:((an.length:Int)==0)=true:=by rw [h0];rfl
    clear h0 HR BA GA BB GB EA EB
    go_wp2_with fail
    go_ret
    rw [HF.out]
    exact ⟨rfl,HB0.out⟩
   ·have d0:((an.length:Int)==0)=false:=by rw [beq_eq_false_iff_ne];omega
    go_wp2_with fail
    go_loop [22] (fun u=>∃k:Nat,k≤an.length∧u=.int .i64 k∧Hid (∀j,(hj:j < an.length)→j < k→0≤an[j]∧an[j]≤1114111)) (fun u=>an.length - (intOf u).toNat)
    case atStart=>exact ⟨0,Nat.zero_le _,rfl,Lib.hid (fun j _ h=>absurd h (by omega))⟩
    case round=>
     obtain ⟨k,hk,rfl,hall⟩:=hrel
     by_cases hlt:k < an.length
     ·obtain ⟨b1,o1,rfl,hcell⟩:=IA.out.at hlt
      have cz:=hcell k hlt
      have HBk:=Lib.hid (fun h=>BA.out k hlt h)
      have HNk:=Lib.hid (fun (h:0≤an[k]∧an[k]≤1114111)=>show ∀j,(hj:j < an.length)→j < k+1→0≤an[j]∧an[j]≤1114111 from fun j hj hj2=>by
       by_cases e:j < k
       ·exact hall.out j hj e
       ·obtain rfl:j=k:=by omega
        exact h)
      clear hcell hall
      generalize an[k]=z at *
      by_cases hz:0≤z∧z≤1114111
      ·have HN:=Lib.hid (HNk.out hz)
       have KV:=Lib.hid (cpValid_any z W0)
       have dz:inR 0 1114111 z=true:=inR_true hz.1 hz.2
       rw [dz] at KV
       clear hz dz HBk HNk
       go_wp2_with fail
       with_reducible refine KV.out.mono ?_
       rintro e W1 ⟨rfl,rfl⟩
       go_wp2_with fail
       go_round
       case rel=>exact ⟨k+1,by omega,by go_num,HN⟩
       case measure=>simp [intOf];omega
      ·have HF:=Lib.hid (show r=1 from by rw [HR.out false rb (HBk.out hz) rfl];rfl)
       have KV:=Lib.hid (cpValid_any z W0)
       have dz:inR 0 1114111 z=false:=inR_false.2 (by omega)
       rw [dz] at KV
       clear hz dz HBk HNk
       go_wp2_with fail
       with_reducible refine KV.out.mono ?_
       rintro e W1 ⟨rfl,rfl⟩
       go_wp2_with fail
       go_ret
       rw [HF.out]
       exact ⟨rfl,HB0.out⟩
     ·obtain rfl:k=an.length:=by omega
      have HG:=Lib.hid (GA.out (by omega) (fun j hj=>hall.out j hj hj))
      clear hall
      go_wp2_with fail
      go_round
      case rel=>exact ⟨1,by decide,by go_num,fun _=>HG.out,fun h=>absurd h (by decide)⟩
      case measure=>simp [intOf]
  ·have cx:=HX.out.cell (i:=1) rfl
   have H1:=Lib.hid h1
   clear h1 h2
   by_cases h0:cd.length=0
   ·have HF:=Lib.hid (show r=1 from by rw [HR.out ra false rfl (EB.out h0)];cases ra <;> rfl)
    have d0:((cd.length:Int)==0)=true:=by rw [h0];rfl
    clear h0 HR BA GA BB GB EA EB
    go_wp2_with fail
    go_ret
    rw [HF.out]
    exact ⟨rfl,HB0.out⟩
   ·have d0:((cd.length:Int)==0)=false:=by rw [beq_eq_false_iff_ne];omega
    go_wp2_with fail
    go_loop [22] (fun u=>∃k:Nat,k≤cd.length∧u=.int .i64 k∧Hid (∀j,(hj:j < cd.length)→j < k→0≤cd[j]∧cd[j]≤1114111)) (fun u=>cd.length - (intOf u).toNat)
    case atStart=>exact ⟨0,Nat.zero_le _,rfl,Lib.hid (fun j _ h=>absurd h (by omega))⟩
    case round=>
     obtain ⟨k,hk,rfl,hall⟩:=hrel
     by_cases hlt:k < cd.length
     ·obtain ⟨b1,o1,rfl,hcell⟩:=IB.out.at hlt
      have cz:=hcell k hlt
      have HBk:=Lib.hid (fun h=>BB.out k hlt h)
      have HNk:=Lib.hid (fun (h:0≤cd[k]∧cd[k]≤1114111)=>show ∀j,(hj:j < cd.length)→j < k+1→0≤cd[j]∧cd[j]≤1114111 from fun j hj hj2=>by
       by_cases e:j < k
       ·exact hall.out j hj e
       ·obtain rfl:j=k:=by omega
        exact h)
      clear hcell hall
      generalize cd[k]=z at *
      by_cases hz:0≤z∧z≤1114111
      ·have HN:=Lib.hid (HNk.out hz)
       have KV:=Lib.hid (cpValid_any z W0)
       have dz:inR 0 1114111 z=true:=inR_true hz.1 hz.2
       rw [dz] at KV
       clear hz dz HBk HNk
       go_wp2_with fail
       with_reducible refine KV.out.mono ?_
       rintro e W1 ⟨rfl,rfl⟩
       go_wp2_with fail
       go_round
       case rel=>exact ⟨k+1,by omega,by go_num,HN⟩
       case measure=>simp [intOf];omega
      ·have HF:=Lib.hid (show r=1 from by rw [HR.out ra false rfl (HBk.out hz)];cases ra <;> rfl)
       have KV:=Lib.hid (cpValid_any z W0)
       have dz:inR 0 1114111 z=false:=inR_false.2 (by omega)
       rw [dz] at KV
       clear hz dz HBk HNk
       go_wp2_with fail
       with_reducible refine KV.out.mono ?_
       rintro e W1 ⟨rfl,rfl⟩
       go_wp2_with fail
       go_ret
       rw [HF.out]
       exact ⟨rfl,HB0.out⟩
     ·obtain rfl:k=cd.length:=by omega
      have HG:=Lib.hid (GB.out (by omega) (fun j hj=>hall.out j hj hj))
      clear hall
      go_wp2_with fail
      go_round
      case rel=>exact ⟨2,by decide,by go_num,fun _=>H1.out (by decide),fun _=>HG.out⟩
      case measure=>simp [intOf]
  ·have HF:=Lib.hid (show r=0 from by rw [HR.out true true (h1 (by decide)) (h2 (by decide))];rfl)
   clear h1 h2 HR BA GA BB GB EA EB
   go_wp2_with fail
   go_ret
   rw [HF.out]
   exact ⟨rfl,HB0.out⟩
end Go.Proofs.YtkhmjidaeliccaaGreatDoor
namespace Go.Proofs.YtkhmjidaeliccaaGreatDoor
open Go.RowKit Go.Maps Go.WideMaps Tl
def chkV (x:Nrm) (c:Col) (t:Tlr):Int:=if nErr x≠0 then nErr x else if colErr c≠0 then colErr c else if kndT t=true then (if (rngT t.anc&&rngT t.cds)=true then 0 else 1) else 8
theorem checked_any (A0:Option Addr) (n0 k0:Nat) (A1:Option Addr) (n1 k1:Nat) (A2:Option Addr) (n2 k2:Nat) (x:Nrm) (C:Option Addr) (n a:Nat) (B:Option Addr) (m b:Nat) (c:Col) (P:Option Addr) (pk:Nat) (Q:Option Addr) (qk:Nat) (t:Tlr) (w:World) (hN:NrmAt w A0 n0 A1 n1 A2 n2 x) (hz:NrmSz x) (hL:Laid w) (hC:ColAt w C n B m c) (hcz:ColSz c) (hP:Ints w P t.anc) (hQ:Ints w Q t.cds) (hpl:t.anc.length≤1048576) (hql:t.cds.length≤1048576) :
  Calls Tryz.prog 34 #[.agg #[.slice A0 n0 k0,.slice A1 n1 k1,.slice A2 n2 k2],colV C n a B m b c,.agg #[.slice P t.anc.length pk,.slice Q t.cds.length qk,.int .i64 t.lvl,.bool t.bef]] w (RetInt (chkV x c t) w):=by
 have B0:Below w.heap.size w (((w.alloc (.cells #[.slice A0 n0 k0,.slice A1 n1 k1,.slice A2 n2 k2] 28)).alloc (.cells #[.slice C n a,.slice B m b,.int .i64 c.base,.int .i64 c.second,.int .i64 c.third] 32)).alloc (.cells #[.slice P t.anc.length pk,.slice Q t.cds.length qk,.int .i64 t.lvl,.bool t.bef] 35)):=(((Below.refl _ _).alloc (Nat.le_refl _) _).alloc (by simp) _).alloc (by simp;omega) _
 have X0:Box (((w.alloc (.cells #[.slice A0 n0 k0,.slice A1 n1 k1,.slice A2 n2 k2] 28)).alloc (.cells #[.slice C n a,.slice B m b,.int .i64 c.base,.int .i64 c.second,.int .i64 c.third] 32)).alloc (.cells #[.slice P t.anc.length pk,.slice Q t.cds.length qk,.int .i64 t.lvl,.bool t.bef] 35)) w.heap.size 28 [.slice A0 n0 k0,.slice A1 n1 k1,.slice A2 n2 k2]:=((Box.new w 28 [.slice A0 n0 k0,.slice A1 n1 k1,.slice A2 n2 k2] rfl).below ((Below.refl _ _).alloc (Nat.le_refl _) _) (by simp)).below ((Below.refl _ _).alloc (Nat.le_refl _) _) (by simp;omega)
 have X1:Box (((w.alloc (.cells #[.slice A0 n0 k0,.slice A1 n1 k1,.slice A2 n2 k2] 28)).alloc (.cells #[.slice C n a,.slice B m b,.int .i64 c.base,.int .i64 c.second,.int .i64 c.third] 32)).alloc (.cells #[.slice P t.anc.length pk,.slice Q t.cds.length qk,.int .i64 t.lvl,.bool t.bef] 35)) (w.heap.size+1) 32 [.slice C n a,.slice B m b,.int .i64 c.base,.int .i64 c.second,.int .i64 c.third]:=(Box.new (w.alloc (.cells #[.slice A0 n0 k0,.slice A1 n1 k1,.slice A2 n2 k2] 28)) 32 [.slice C n a,.slice B m b,.int .i64 c.base,.int .i64 c.second,.int .i64 c.third] (by simp)).below ((Below.refl _ _).alloc (Nat.le_refl _) _) (by simp)
 have X2:Box (((w.alloc (.cells #[.slice A0 n0 k0,.slice A1 n1 k1,.slice A2 n2 k2] 28)).alloc (.cells #[.slice C n a,.slice B m b,.int .i64 c.base,.int .i64 c.second,.int .i64 c.third] 32)).alloc (.cells #[.slice P t.anc.length pk,.slice Q t.cds.length qk,.int .i64 t.lvl,.bool t.bef] 35)) (w.heap.size+2) 35 [.slice P t.anc.length pk,.slice Q t.cds.length qk,.int .i64 t.lvl,.bool t.bef]:=Box.new ((w.alloc (.cells #[.slice A0 n0 k0,.slice A1 n1 k1,.slice A2 n2 k2] 28)).alloc (.cells #[.slice C n a,.slice B m b,.int .i64 c.base,.int .i64 c.second,.int .i64 c.third] 32)) 35 [.slice P t.anc.length pk,.slice Q t.cds.length qk,.int .i64 t.lvl,.bool t.bef] (by simp)
 have W0E:∃W0,(((w.alloc (.cells #[.slice A0 n0 k0,.slice A1 n1 k1,.slice A2 n2 k2] 28)).alloc (.cells #[.slice C n a,.slice B m b,.int .i64 c.base,.int .i64 c.second,.int .i64 c.third] 32)).alloc (.cells #[.slice P t.anc.length pk,.slice Q t.cds.length qk,.int .i64 t.lvl,.bool t.bef] 35))=W0:=⟨_,rfl⟩
 have K1:=Lib.hid (fun W (hb:Below w.heap.size w W)=>dCheck_any A0 n0 k0 A1 n1 k1 A2 n2 k2 x W (hN.below hb) hz (hL.below hb))
 have K2:=Lib.hid (fun W (hb:Below w.heap.size w W)=>ckColl_any C n a B m b c W (hC.below hb) hcz)
 have K3:=Lib.hid (fun W=>known_ok_any P t.anc.length pk Q t.cds.length qk t W)
 have K4:=Lib.hid (fun W (hb:Below w.heap.size w W)=>ranged_any P t.anc.length pk Q t.cds.length qk t W (hP.below hb) (hQ.below hb) rfl rfl hpl hql)
 unfold RetInt at K1 K2 K3 K4 ⊢
 unfold colV at K2 ⊢
 obtain ⟨e1,he1⟩:∃e,nErr x=e:=⟨_,rfl⟩
 obtain ⟨e2,he2⟩:∃e,colErr c=e:=⟨_,rfl⟩
 obtain ⟨e3,he3⟩:∃e:Int,(if kndT t=true then 0 else 8)=e:=⟨_,rfl⟩
 obtain ⟨e4,he4⟩:∃e:Int,(if (rngT t.anc&&rngT t.cds)=true then 0 else 1)=e:=⟨_,rfl⟩
 have HV:=Lib.hid (show chkV x c t=if e1≠0 then e1 else if e2≠0 then e2 else if e3≠0 then e3 else e4 from by
  unfold chkV
  rw [he1,he2,he4,←he3]
  cases kndT t <;> simp)
 rw [he1] at K1;rw [he2] at K2;rw [he3] at K3;rw [he4] at K4
 generalize chkV x c t=r at *
 clear he1 he2 he3 he4 hN hz hL hC hcz hP hQ
 generalize t.anc.length=pn at *
 generalize t.cds.length=qn at *
 generalize t.lvl=lv at *
 generalize t.bef=bf at *
 go_enter Tryz.func34,Tryz.ntmps34
 go_upto_region 1 with (fail)
 obtain ⟨W0,hW0⟩:=W0E
 try rw [hW0] at B0 X0 X1 X2 ⊢
 clear hW0
 have l0:=X0.lt
 have l1:=X1.lt
 have l2:=X2.lt
 have c10:=X0.cell (i:=0) rfl
 have c11:=X0.cell (i:=1) rfl
 have c12:=X0.cell (i:=2) rfl
 have HB0:=Lib.hid B0
 have HX0:=Lib.hid X0
 have HX1:=Lib.hid X1
 have HX2:=Lib.hid X2
 clear X0 X1 X2 B0
 have C1:=Lib.hid (K1.out W0 HB0.out)
 clear K1
 go_wp2_with fail
 with_reducible refine C1.out.mono ?_
 rintro e Wa ⟨rfl,hb1⟩
 have HBa:=Lib.hid (HB0.out.trans (hb1.mono HB0.out.size))
 have HXa1:=Lib.hid (HX1.out.below hb1 l1)
 have HXa2:=Lib.hid (HX2.out.below hb1 l2)
 clear hb1 c10 c11 c12 C1
 by_cases q1:e1=0
 ·have d1:(e1 != 0)=false:=by simp [q1]
  have HV2:=Lib.hid (show r=if e2≠0 then e2 else if e3≠0 then e3 else e4 from by rw [HV.out,if_neg (by simp [q1])])
  clear q1 HV
  have ca0:=HXa1.out.cell (i:=0) rfl
  have ca1:=HXa1.out.cell (i:=1) rfl
  have ca2:=HXa1.out.cell (i:=2) rfl
  have ca3:=HXa1.out.cell (i:=3) rfl
  have ca4:=HXa1.out.cell (i:=4) rfl
  have C2:=Lib.hid (K2.out Wa HBa.out)
  clear K2
  go_wp2_with fail
  with_reducible refine C2.out.mono ?_
  rintro e Wb ⟨rfl,hb1⟩
  have HBb:=Lib.hid (HBa.out.trans (hb1.mono HBa.out.size))
  have HXb2:=Lib.hid (HXa2.out.below hb1 HXa2.out.lt)
  clear hb1 C2 ca0 ca1 ca2 ca3 ca4
  by_cases q2:e2=0
  ·have d2:(e2 != 0)=false:=by simp [q2]
   have HV3:=Lib.hid (show r=if e3≠0 then e3 else e4 from by rw [HV2.out,if_neg (by simp [q2])])
   clear q2 HV2
   have cb0:=HXb2.out.cell (i:=0) rfl
   have cb1:=HXb2.out.cell (i:=1) rfl
   have cb2:=HXb2.out.cell (i:=2) rfl
   have cb3:=HXb2.out.cell (i:=3) rfl
   have C3:=Lib.hid (K3.out Wb)
   clear K3
   go_wp2_with fail
   with_reducible refine C3.out.mono ?_
   rintro e Wc ⟨rfl,hb1⟩
   have HBc:=Lib.hid (HBb.out.trans (hb1.mono HBb.out.size))
   have HXc2:=Lib.hid (HXb2.out.below hb1 HXb2.out.lt)
   clear hb1 C3 cb0 cb1 cb2 cb3
   by_cases q3:e3=0
   ·have d3:(e3 != 0)=false:=by simp [q3]
    have HV4:=Lib.hid (show r=e4 from by rw [HV3.out,if_neg (by simp [q3])])
    clear q3 HV3
    have cc0:=HXc2.out.cell (i:=0) rfl
    have cc1:=HXc2.out.cell (i:=1) rfl
    have cc2:=HXc2.out.cell (i:=2) rfl
    have cc3:=HXc2.out.cell (i:=3) rfl
    have C4:=Lib.hid (K4.out Wc HBc.out)
    clear K4
    go_wp2_with fail
    with_reducible refine C4.out.mono ?_
    rintro e Wd ⟨rfl,hb1⟩
    have HBd:=Lib.hid (HBc.out.trans (hb1.mono HBc.out.size))
    clear hb1 C4 cc0 cc1 cc2 cc3
    go_wp2_with fail
    go_ret
    exact ⟨by rw [HV4.out] <;> rfl,HBd.out⟩
   ·have d3:(e3 != 0)=true:=by simp [q3]
    have HV4:=Lib.hid (show r=e3 from by rw [HV3.out,if_pos q3])
    clear q3
    go_wp2_with fail
    go_ret
    exact ⟨by rw [HV4.out] <;> rfl,HBc.out⟩
  ·have d2:(e2 != 0)=true:=by simp [q2]
   have HV4:=Lib.hid (show r=e2 from by rw [HV2.out,if_pos q2])
   clear q2
   go_wp2_with fail
   go_ret
   exact ⟨by rw [HV4.out] <;> rfl,HBb.out⟩
 ·have d1:(e1 != 0)=true:=by simp [q1]
  have HV4:=Lib.hid (show r=e1 from by rw [HV.out,if_pos q1])
  clear q1
  go_wp2_with fail
  go_ret
  exact ⟨by rw [HV4.out] <;> rfl,HBa.out⟩
end Go.Proofs.YtkhmjidaeliccaaGreatDoor
namespace Go.Proofs.YtkhmjidaeliccaaGreatDoor
open Go.RowKit Go.Maps Go.WideMaps
theorem ColSz.d {c:Col} (h:ColSz c):ColSz (colD c):=by
 by_cases he:colErr c=0
 ·rw [colD_good he];exact h
 ·rw [colD_bad he];exact ⟨fun i hi=>by simp [colB] at hi,by simp [colB],by simp [colB]⟩
end Go.Proofs.YtkhmjidaeliccaaGreatDoor
namespace Go.Proofs.YtkhmjidaeliccaaGreatDoor
open Go.RowKit Go.Maps Go.WideMaps
def R2 (p l:List Int):Nat→List Int:=fun k=>if k=0 then p else if k=1 then l else []
theorem R4.len {w:World} {base:Nat} {A:Nat→Option Addr} {C:Nat→Nat} {R:Nat→List Int} (h:R4 w base A C R) {k:Nat} (hk:k < 4):(R k).length≤C k:=by
 obtain ⟨_,_,hv,hc⟩:=own_form (h.own k hk)
 injection hv with _ _ hv
 subst hv
 exact hc
theorem R4.low {w w':World} {base:Nat} {A:Nat→Option Addr} {C:Nat→Nat} {R:Nat→List Int} (h:R4 w base A C R) (hbs:base≤w.heap.size) {k:Nat} (hk:k < 4) {n c:Nat} (hg:w.grownBy w' (Value.ownBlock (.slice (A k) n c))):Below base w w':=by
 rw [ownBlock_blk] at hg
 exact ⟨hg.os,hg.tape,hg.output,hg.size,fun q hq=>hg.block q (by omega) (fun e=>by have:=(h.lt hk e.symm).1;omega)⟩
end Go.Proofs.YtkhmjidaeliccaaGreatDoor
namespace Go.Proofs.YtkhmjidaeliccaaGreatDoor
open Go.RowKit Go.Maps Go.WideMaps
def knwN (x:Nrm) (c:Col) (t:List Int):Bool:=Mtc.known (cls (usN x).cls) (lastE (colD c).ents) (dtx x false t)
structure WL (cl:Int→Int) (ent:List Int→Option (List Elt)) (imp:Int→List Elt) (els:List Elt) (kn:Bool) (tot:Nat) (w1:World) (t:List Int) (A:Option Addr) (cap:Nat) (E:Option Addr) (k:Nat) (es:List Elt) (q:Bool) (W:World):Prop where
 eq:es++Mtc.elems cl ent imp t=els
 kq:(q&&Mtc.known cl ent t)=kn
 own:W.ownsRow w1.heap.size 77 4 (.slice E es.length k) es.length (flatK Elt.cells es)
 low:Below w1.heap.size w1 W
 bd:es.length+16*t.length≤16*tot
 cp:t.length≤cap
 row:Ints W A t
 ap:t≠[]→∀q,blk A=some q→blk E≠some q
section
variable {cl:Int→Int} {ent:List Int→Option (List Elt)} {imp:Int→List Elt} {els:List Elt} {kn:Bool} {tot:Nat} {w1:World} {t:List Int} {A:Option Addr} {cap:Nat} {E:Option Addr} {k:Nat} {es:List Elt} {q:Bool} {W:World}
theorem WL.next (h:WL cl ent imp els kn tot w1 t A cap E k es q W) (ht:t≠[]) {L:Option Addr} {l:Nat} {W' W2:World} (hb:Below W.heap.size W W') (hp:(Mtc.ofPart ent imp (Mtc.matched cl ent t).1 (Mtc.matched cl ent t).2.2).length≤16) (hL:Ints W' L (Mtc.matched cl ent t).2.1) (hl:(Mtc.matched cl ent t).2.1.length≤l) (hf:∀q,blk L=some q→blk A=some q∨W.heap.size≤q)
  {E':Option Addr} {k':Nat} (ho:W2.ownsRow w1.heap.size 77 4 (.slice E' (es.length+(Mtc.ofPart ent imp (Mtc.matched cl ent t).1 (Mtc.matched cl ent t).2.2).length) k') (es.length+(Mtc.ofPart ent imp (Mtc.matched cl ent t).1 (Mtc.matched cl ent t).2.2).length) (flatK Elt.cells es++flatK Elt.cells (Mtc.ofPart ent imp (Mtc.matched cl ent t).1 (Mtc.matched cl ent t).2.2))) (hb2:Below w1.heap.size W' W2) (hg:W'.grownBy W2 (Value.ownBlock (.slice E es.length k))) (hE:E'=E∨E'=some ⟨W'.heap.size,0,none⟩) :
  WL cl ent imp els kn tot w1 (Mtc.matched cl ent t).2.1 L l E' k' (es++Mtc.ofPart ent imp (Mtc.matched cl ent t).1 (Mtc.matched cl ent t).2.2) (q&&(Mtc.matched cl ent t).2.2) W2:=by
 obtain ⟨hl1,hl2⟩:=Mtc.matched_len (cl:=cl) (ent:=ent) ht
 have hbd:=h.bd
 have heq:=h.eq
 rw [Mtc.elems_step ht,←List.append_assoc] at heq
 have hkq:=h.kq
 rw [Mtc.known_step ht,←Bool.and_assoc] at hkq
 have hap:=h.ap ht
 have hlt:∀g,blk E=some g→w1.heap.size≤g∧g < W.heap.size:=fun g hg=>h.own.lt g (by rw [ownBlock_blk];exact hg)
 have hs:=hb.size
 rw [ownBlock_blk] at hg
 have hne:∀g,blk L=some g→blk E≠some g:=fun g hg e=>by
  rcases hf g hg with h1 | h1
  ·exact hap g h1 e
  ·have:=(hlt g e).2;omega
 refine ⟨heq,hkq,by rw [List.length_append,flatK_append];exact ho,(h.low.trans (hb.mono h.low.size)).trans hb2,by rw [List.length_append];omega,hl,?_,fun hn2 g hgl e=>?_⟩
 ·intro hnn
  obtain ⟨b,o,hA,hc⟩:=hL hnn
  refine ⟨b,o,hA,fun j u hu=>?_⟩
  have h1:=hc j u hu
  have hbl:=World.block_lt_of_cell? W' _ h1
  rw [World.cell?_of_block (hg.block b hbl (fun e=>hne b (by rw [hA];rfl) e.symm))]
  exact h1
 ·rcases hE with rfl | rfl
  ·exact hne g hgl e
  ·have e2:g=W'.heap.size:=by injection e with e;exact e.symm
   obtain ⟨b,o,hA,hc⟩:=Ints.at hL (k:=0) (List.length_pos_iff.2 hn2)
   have hbl:=World.block_lt_of_cell? W' _ (hc 0 (List.length_pos_iff.2 hn2))
   rw [hA] at hgl
   have e3:b=g:=by injection hgl
   dsimp only at hbl
   omega
end
end Go.Proofs.YtkhmjidaeliccaaGreatDoor
