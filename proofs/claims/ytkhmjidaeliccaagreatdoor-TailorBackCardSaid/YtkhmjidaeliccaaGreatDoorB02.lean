/- Texts that are merged into one file: Str, Coll, Element, HeldSkip, Maps, Box, TxHex. -/
import Derived.Test.YtkhmjidaeliccaaGreatDoorB01
import Derived.Test.YtkhmjidaeliccaaGreatDoorProg
import Derived.WalkSpells
import Derived.Deep.QuietTactic
import Derived.BigQuiet
import Derived.Deep.RegionHeld3
import Derived.Maps.OwnSet
import Derived.Maps.OwnOps
import Derived.Deep.Cut
set_option maxRecDepth 100000
set_option maxHeartbeats 51200000
namespace Go.Proofs.YtkhmjidaeliccaaGreatDoor
open Go.RowKit
def nmc (n:Int):Prop:=(65≤n∧n≤90)∨(97≤n∧n≤122)∨(48≤n∧n≤57)∨n=95
instance (n:Int):Decidable (nmc n):=by unfold nmc;exact inferInstance
def nameOk (s:ByteArray):Bool:=s.data.toList.all (fun b=>decide (nmc (b.toNat:Int)))&&(decide (1≤s.size)&&decide (s.size≤32))
theorem str_len (s:ByteArray):s.toList.length=s.size:=by
 rw [ByteArray.toList_eq,Array.length_toList];rfl
theorem str_nil {s:ByteArray} (h:s.size=0):s.toList=[]:=by rw [←List.length_eq_zero_iff,str_len];exact h
theorem str_cons {s:ByteArray} (h:¬s.size=0):¬s.toList=[]:=by rw [←List.length_eq_zero_iff,str_len];exact h
theorem below_drewN {n:Nat} {a w:World} (h:Below n a w) (k:Nat):Below n a (w.drewN k):=⟨h.os,h.tape,h.output,h.size,h.block⟩
theorem str_inj {a b:ByteArray} (h:a.toList=b.toList):a=b:=by
 rw [ByteArray.toList_eq,ByteArray.toList_eq] at h
 cases a;cases b
 simp only [ByteArray.mk.injEq]
 exact Array.toList_inj.1 h
theorem str_eqF {a b:ByteArray} (h:¬a=b):(a.toList==b.toList)=false:=by
 rw [beq_eq_false_iff_ne]
 exact fun e=>h (str_inj e)
theorem nameOk_bad {s:ByteArray} {k:Nat} (hk:k < s.size) (h:¬nmc (s[k].toNat:Int)):nameOk s=false:=by
 unfold nameOk
 rw [Bool.and_eq_false_iff]
 left
 rw [List.all_eq_false]
 exact ⟨s[k],by rw [Array.mem_toList_iff];exact Array.getElem_mem _,by simpa using h⟩
theorem nameOk_all {s:ByteArray} (h:∀j,(hj:j < s.size)→nmc (s[j].toNat:Int)):nameOk s=(decide (1≤s.size)&&decide (s.size≤32)):=by
 unfold nameOk
 have:s.data.toList.all (fun b=>decide (nmc (b.toNat:Int)))=true:=by
  rw [List.all_eq_true]
  intro b hb
  obtain ⟨i,hi,rfl⟩:=List.getElem_of_mem hb
  have h1:=h i (by simpa using hi)
  have e:s.data.toList[i]=s[i]'(by simpa using hi):=by simp;rfl
  rw [e]
  simpa using h1
 rw [this,Bool.true_and]
theorem isName_any (s:ByteArray) (w:World) (hs:s.size≤9223372036854775807) :
  Calls Tryz.prog 128 #[.string s] w fun e w'=>e=.returned (.bool (nameOk s))∧w=w':=by
 go_enter Tryz.func128,Tryz.ntmps128
 go_wp2
 go_loop [3,4,7] (fun _ _ i=>∃k:Nat,k≤s.size∧i=.int .i64 k∧∀j,(hj:j < s.size)→j < k→nmc (s[j].toNat:Int)) (fun _ _ i=>s.size - (intOf i).toNat)
 case atStart=>exact ⟨0,Nat.zero_le _,rfl,fun j _ h=>by omega⟩
 case round=>
  obtain ⟨k,hk,rfl,hall⟩:=hrel
  have HA:=Lib.hid hall;clear hall
  by_cases hlt:k < s.size
  ·have HB:=Lib.hid (fun h=>nameOk_bad hlt h)
   have HN:=Lib.hid (fun (h:nmc (s[k].toNat:Int))=>show ∀j,(hj:j < s.size)→j < k+1→nmc (s[j].toNat:Int) from fun j hj hj2=>by
    by_cases e:j < k
    ·exact HA.out j hj e
    ·obtain rfl:j=k:=by omega
     exact h)
   have HD:=Lib.hid (show nmc (s[k].toNat:Int) ↔ ((65≤(s[k].toNat:Int)∧(s[k].toNat:Int)≤90)∨(97≤(s[k].toNat:Int)∧(s[k].toNat:Int)≤122)∨(48≤(s[k].toNat:Int)∧(s[k].toNat:Int)≤57)∨(s[k].toNat:Int)=95) from Iff.rfl)
   have hlt8:=s[k].toNat_lt
   obtain ⟨hc1,hc2⟩ | ⟨hc1,hc2⟩ | ⟨hc1,hc2⟩ | ⟨hc1,hc2⟩ | ⟨hc1,hc2⟩ | ⟨hc1,hc2⟩ | ⟨hc1,hc2⟩ | ⟨hc1,hc2⟩ | ⟨hc1,hc2⟩:(0≤(s[k].toNat:Int)∧(s[k].toNat:Int)≤47)∨(48≤(s[k].toNat:Int)∧(s[k].toNat:Int)≤57)∨(58≤(s[k].toNat:Int)∧(s[k].toNat:Int)≤64)∨(65≤(s[k].toNat:Int)∧(s[k].toNat:Int)≤90)∨(91≤(s[k].toNat:Int)∧(s[k].toNat:Int)≤94)∨(95≤(s[k].toNat:Int)∧(s[k].toNat:Int)≤95)∨(96≤(s[k].toNat:Int)∧(s[k].toNat:Int)≤96)∨(97≤(s[k].toNat:Int)∧(s[k].toNat:Int)≤122)∨(123≤(s[k].toNat:Int)∧(s[k].toNat:Int)≤255):=by omega
   ·have hd1:decide (65≤(s[k].toNat:Int))=false:=decide_eq_false (by omega)
    have hd2:decide (97≤(s[k].toNat:Int))=false:=decide_eq_false (by omega)
    have hd3:decide (48≤(s[k].toNat:Int))=false:=decide_eq_false (by omega)
    have hd4:decide ((s[k].toNat:Int)≤90)=true:=decide_eq_true (by omega)
    have hd5:decide ((s[k].toNat:Int)≤122)=true:=decide_eq_true (by omega)
    have hd6:decide ((s[k].toNat:Int)≤57)=true:=decide_eq_true (by omega)
    have hc3:((s[k].toNat:Int)==95)=false:=beq_eq_false_iff_ne.2 (by omega)
    have HY:=Lib.hid (HB.out (fun h=>by have h9:=HD.out.1 h;omega))
    go_wp2
    go_ret
    exact ⟨ret_bool HY.out.symm,rfl⟩
   ·have hd1:decide (65≤(s[k].toNat:Int))=false:=decide_eq_false (by omega)
    have hd2:decide (97≤(s[k].toNat:Int))=false:=decide_eq_false (by omega)
    have hd3:decide (48≤(s[k].toNat:Int))=true:=decide_eq_true (by omega)
    have hd4:decide ((s[k].toNat:Int)≤90)=true:=decide_eq_true (by omega)
    have hd5:decide ((s[k].toNat:Int)≤122)=true:=decide_eq_true (by omega)
    have hd6:decide ((s[k].toNat:Int)≤57)=true:=decide_eq_true (by omega)
    have hc3:((s[k].toNat:Int)==95)=false:=beq_eq_false_iff_ne.2 (by omega)
    have HY:=Lib.hid (HN.out (HD.out.2 (by omega)))
    go_wp2
    go_round
    case rel=>exact ⟨k+1,by omega,by go_num,HY.out⟩
    case measure=>simp [intOf];omega
   ·have hd1:decide (65≤(s[k].toNat:Int))=false:=decide_eq_false (by omega)
    have hd2:decide (97≤(s[k].toNat:Int))=false:=decide_eq_false (by omega)
    have hd3:decide (48≤(s[k].toNat:Int))=true:=decide_eq_true (by omega)
    have hd4:decide ((s[k].toNat:Int)≤90)=true:=decide_eq_true (by omega)
    have hd5:decide ((s[k].toNat:Int)≤122)=true:=decide_eq_true (by omega)
    have hd6:decide ((s[k].toNat:Int)≤57)=false:=decide_eq_false (by omega)
    have hc3:((s[k].toNat:Int)==95)=false:=beq_eq_false_iff_ne.2 (by omega)
    have HY:=Lib.hid (HB.out (fun h=>by have h9:=HD.out.1 h;omega))
    go_wp2
    go_ret
    exact ⟨ret_bool HY.out.symm,rfl⟩
   ·have hd1:decide (65≤(s[k].toNat:Int))=true:=decide_eq_true (by omega)
    have hd2:decide (97≤(s[k].toNat:Int))=false:=decide_eq_false (by omega)
    have hd3:decide (48≤(s[k].toNat:Int))=true:=decide_eq_true (by omega)
    have hd4:decide ((s[k].toNat:Int)≤90)=true:=decide_eq_true (by omega)
    have hd5:decide ((s[k].toNat:Int)≤122)=true:=decide_eq_true (by omega)
    have hd6:decide ((s[k].toNat:Int)≤57)=false:=decide_eq_false (by omega)
    have hc3:((s[k].toNat:Int)==95)=false:=beq_eq_false_iff_ne.2 (by omega)
    have HY:=Lib.hid (HN.out (HD.out.2 (by omega)))
    go_wp2
    go_round
    case rel=>exact ⟨k+1,by omega,by go_num,HY.out⟩
    case measure=>simp [intOf];omega
   ·have hd1:decide (65≤(s[k].toNat:Int))=true:=decide_eq_true (by omega)
    have hd2:decide (97≤(s[k].toNat:Int))=false:=decide_eq_false (by omega)
    have hd3:decide (48≤(s[k].toNat:Int))=true:=decide_eq_true (by omega)
    have hd4:decide ((s[k].toNat:Int)≤90)=false:=decide_eq_false (by omega)
    have hd5:decide ((s[k].toNat:Int)≤122)=true:=decide_eq_true (by omega)
    have hd6:decide ((s[k].toNat:Int)≤57)=false:=decide_eq_false (by omega)
    have hc3:((s[k].toNat:Int)==95)=false:=beq_eq_false_iff_ne.2 (by omega)
    have HY:=Lib.hid (HB.out (fun h=>by have h9:=HD.out.1 h;omega))
    go_wp2
    go_ret
    exact ⟨ret_bool HY.out.symm,rfl⟩
   ·have hd1:decide (65≤(s[k].toNat:Int))=true:=decide_eq_true (by omega)
    have hd2:decide (97≤(s[k].toNat:Int))=false:=decide_eq_false (by omega)
    have hd3:decide (48≤(s[k].toNat:Int))=true:=decide_eq_true (by omega)
    have hd4:decide ((s[k].toNat:Int)≤90)=false:=decide_eq_false (by omega)
    have hd5:decide ((s[k].toNat:Int)≤122)=true:=decide_eq_true (by omega)
    have hd6:decide ((s[k].toNat:Int)≤57)=false:=decide_eq_false (by omega)
    have hc3:((s[k].toNat:Int)==95)=true:=beq_iff_eq.2 (by omega)
    have HY:=Lib.hid (HN.out (HD.out.2 (by omega)))
    go_wp2
    go_round
    case rel=>exact ⟨k+1,by omega,by go_num,HY.out⟩
    case measure=>simp [intOf];omega
   ·have hd1:decide (65≤(s[k].toNat:Int))=true:=decide_eq_true (by omega)
    have hd2:decide (97≤(s[k].toNat:Int))=false:=decide_eq_false (by omega)
    have hd3:decide (48≤(s[k].toNat:Int))=true:=decide_eq_true (by omega)
    have hd4:decide ((s[k].toNat:Int)≤90)=false:=decide_eq_false (by omega)
    have hd5:decide ((s[k].toNat:Int)≤122)=true:=decide_eq_true (by omega)
    have hd6:decide ((s[k].toNat:Int)≤57)=false:=decide_eq_false (by omega)
    have hc3:((s[k].toNat:Int)==95)=false:=beq_eq_false_iff_ne.2 (by omega)
    have HY:=Lib.hid (HB.out (fun h=>by have h9:=HD.out.1 h;omega))
    go_wp2
    go_ret
    exact ⟨ret_bool HY.out.symm,rfl⟩
   ·have hd1:decide (65≤(s[k].toNat:Int))=true:=decide_eq_true (by omega)
    have hd2:decide (97≤(s[k].toNat:Int))=true:=decide_eq_true (by omega)
    have hd3:decide (48≤(s[k].toNat:Int))=true:=decide_eq_true (by omega)
    have hd4:decide ((s[k].toNat:Int)≤90)=false:=decide_eq_false (by omega)
    have hd5:decide ((s[k].toNat:Int)≤122)=true:=decide_eq_true (by omega)
    have hd6:decide ((s[k].toNat:Int)≤57)=false:=decide_eq_false (by omega)
    have hc3:((s[k].toNat:Int)==95)=false:=beq_eq_false_iff_ne.2 (by omega)
    have HY:=Lib.hid (HN.out (HD.out.2 (by omega)))
    go_wp2
    go_round
    case rel=>exact ⟨k+1,by omega,by go_num,HY.out⟩
    case measure=>simp [intOf];omega
   ·have hd1:decide (65≤(s[k].toNat:Int))=true:=decide_eq_true (by omega)
    have hd2:decide (97≤(s[k].toNat:Int))=true:=decide_eq_true (by omega)
    have hd3:decide (48≤(s[k].toNat:Int))=true:=decide_eq_true (by omega)
    have hd4:decide ((s[k].toNat:Int)≤90)=false:=decide_eq_false (by omega)
    have hd5:decide ((s[k].toNat:Int)≤122)=false:=decide_eq_false (by omega)
    have hd6:decide ((s[k].toNat:Int)≤57)=false:=decide_eq_false (by omega)
    have hc3:((s[k].toNat:Int)==95)=false:=beq_eq_false_iff_ne.2 (by omega)
    have HY:=Lib.hid (HB.out (fun h=>by have h9:=HD.out.1 h;omega))
    go_wp2
    go_ret
    exact ⟨ret_bool HY.out.symm,rfl⟩
  ·have HF:=Lib.hid (nameOk_all (fun j hj=>HA.out j hj (by omega)))
   by_cases h1:s.size=0
   ·have h0:s.toList=[]:=str_nil h1
    have e1:=Lib.hid h1
    have hz:s.size < 1:=by omega
    clear h1
    go_wp2
    go_ret
    exact ⟨ret_bool (by rw [HF.out,e1.out];rfl),rfl⟩
   ·have h0:¬s.toList=[]:=str_cons h1
    have h0':s.toList.isEmpty=false:=by simpa using h0
    by_cases h2:s.size≤32
    ·go_wp2
     go_ret
     exact ⟨ret_bool (by rw [HF.out,decide_eq_true (show 1≤s.size by omega)];first | (rw [decide_eq_true (show s.size≤32 by omega)];simp;done) | (rw [decide_eq_false (show ¬s.size≤32 by omega)];simp;done) | (simp;omega)),rfl⟩
    ·go_wp2
     go_ret
     exact ⟨ret_bool (by rw [HF.out,decide_eq_true (show 1≤s.size by omega)];first | (rw [decide_eq_true (show s.size≤32 by omega)];simp;done) | (rw [decide_eq_false (show ¬s.size≤32 by omega)];simp;done) | (simp;omega)),rfl⟩
end Go.Proofs.YtkhmjidaeliccaaGreatDoor
namespace Go.Proofs.YtkhmjidaeliccaaGreatDoor
open Go.RowKit
structure Grp where
 name:ByteArray
 lo:Int
 hi:Int
 deriving DecidableEq
structure Elt where
 p:Int
 s:Int
 t:Int
 v:Bool
 deriving DecidableEq
structure Ent where
 codes:List Int
 elems:List Elt
 deriving DecidableEq
structure Col where
 ents:List Ent
 grps:List Grp
 base:Int
 second:Int
 third:Int
def Grp.cells (g:Grp):List Value:=[.string g.name,.int .i64 g.lo,.int .i64 g.hi]
def Elt.cells (e:Elt):List Value:=[.int .i64 e.p,.int .i64 e.s,.int .i64 e.t,.bool e.v]
section
variable {α:Type} (enc:α→List Value)
def flatK (xs:List α):List Value:=xs.flatMap enc
theorem flatK_len (k:Nat) (hk:∀x,(enc x).length=k) (xs:List α):(flatK enc xs).length=xs.length*k:=by
 induction xs with
 | nil=>simp [flatK]
 | cons x xs ih=>simp only [flatK,List.flatMap_cons,List.length_append,List.length_cons,hk] at *;rw [ih,Nat.add_mul,Nat.one_mul,Nat.add_comm]
theorem flatK_get (k:Nat) (hk:∀x,(enc x).length=k) (xs:List α) (i j:Nat) (hi:i < xs.length) (hj:j < k):(flatK enc xs)[i*k+j]?=(enc xs[i])[j]?:=by
 induction xs generalizing i with
 | nil=>simp at hi
 | cons x xs ih=>
  cases i with
  | zero=>
   simp only [flatK,List.flatMap_cons,Nat.zero_mul,Nat.zero_add,List.getElem_cons_zero]
   rw [List.getElem?_append_left (by rw [hk];exact hj)]
  | succ i=>
   simp only [flatK,List.flatMap_cons,List.getElem_cons_succ]
   rw [List.getElem?_append_right (by rw [hk,Nat.add_mul];omega),hk,show (i+1)*k+j - k=i*k+j by rw [Nat.add_mul,Nat.one_mul];omega]
   exact ih i (by simpa using hi)
theorem flatK_append (xs ys:List α):flatK enc (xs++ys)=flatK enc xs++flatK enc ys:=by simp [flatK]
end
def Recs {α:Type} (enc:α→List Value) (w:World) (A:Option Addr) (xs:List α):Prop:=Sl w A (flatK enc xs)
theorem Recs.below {α:Type} {enc:α→List Value} {w w':World} {A:Option Addr} {xs:List α} (h:Recs enc w A xs) (hb:Below w.heap.size w w'):Recs enc w' A xs:=Sl.below h hb
theorem Recs.at {α:Type} {enc:α→List Value} {w:World} {A:Option Addr} {xs:List α} (k:Nat) (hk:∀x,(enc x).length=k) (k0:0 < k) (h:Recs enc w A xs) {m:Nat} (hm:m < xs.length) :
  ∃b o,A=some ⟨b,o,none⟩∧b < w.heap.size∧∀i,(hi:i < xs.length)→∀j u,(enc xs[i])[j]?=some u→w.cell? ⟨b,o+(i*k+j),none⟩=some u:=by
 have hget:∀i,(hi:i < xs.length)→∀j u,(enc xs[i])[j]?=some u→(flatK enc xs)[i*k+j]?=some u:=by
  intro i hi j u hu
  have hj:j < k:=by have:=(List.getElem?_eq_some_iff.1 hu).1;rw [hk] at this;exact this
  rw [flatK_get enc k hk xs i j hi hj]
  exact hu
 have hlen:m*k < (flatK enc xs).length:=by
  rw [flatK_len enc k hk]
  exact Nat.mul_lt_mul_of_pos_right hm k0
 obtain ⟨b,o,rfl,hc⟩:=Sl.at h hlen
 have h0:0 < (enc xs[m]).length:=by rw [hk];exact k0
 refine ⟨b,o,rfl,World.block_lt_of_cell? w _ (hc _ _ (hget m hm 0 _ (List.getElem?_eq_getElem h0))),fun i hi j u hu=>hc _ _ (hget i hi j u hu)⟩
def Grps (w:World) (A:Option Addr) (gs:List Grp):Prop:=Recs Grp.cells w A gs
theorem Grps.below {w w':World} {A:Option Addr} {gs:List Grp} (h:Grps w A gs) (hb:Below w.heap.size w w'):Grps w' A gs:=Recs.below h hb
theorem Grps.at {w:World} {A:Option Addr} {gs:List Grp} (h:Grps w A gs) {m:Nat} (hm:m < gs.length) :
  ∃b o,A=some ⟨b,o,none⟩∧b < w.heap.size∧∀i,(hi:i < gs.length)→w.cell? ⟨b,o+i*3,none⟩=some (.string gs[i].name)∧w.cell? ⟨b,o+i*3+1,none⟩=some (.int .i64 gs[i].lo)∧w.cell? ⟨b,o+i*3+2,none⟩=some (.int .i64 gs[i].hi):=by
 obtain ⟨b,o,rfl,hb,hc⟩:=Recs.at 3 (fun _=>rfl) (by omega) h hm
 exact ⟨b,o,rfl,hb,fun i hi=>⟨hc i hi 0 _ rfl,hc i hi 1 _ rfl,hc i hi 2 _ rfl⟩⟩
def Elts (w:World) (A:Option Addr) (es:List Elt):Prop:=Recs Elt.cells w A es
theorem Elts.below {w w':World} {A:Option Addr} {es:List Elt} (h:Elts w A es) (hb:Below w.heap.size w w'):Elts w' A es:=Recs.below h hb
theorem Elts.at {w:World} {A:Option Addr} {es:List Elt} (h:Elts w A es) {m:Nat} (hm:m < es.length) :
  ∃b o,A=some ⟨b,o,none⟩∧b < w.heap.size∧∀i,(hi:i < es.length)→w.cell? ⟨b,o+i*4,none⟩=some (.int .i64 es[i].p)∧w.cell? ⟨b,o+i*4+1,none⟩=some (.int .i64 es[i].s)∧w.cell? ⟨b,o+i*4+2,none⟩=some (.int .i64 es[i].t)∧w.cell? ⟨b,o+i*4+3,none⟩=some (.bool es[i].v):=by
 obtain ⟨b,o,rfl,hb,hc⟩:=Recs.at 4 (fun _=>rfl) (by omega) h hm
 exact ⟨b,o,rfl,hb,fun i hi=>⟨hc i hi 0 _ rfl,hc i hi 1 _ rfl,hc i hi 2 _ rfl,hc i hi 3 _ rfl⟩⟩
structure EntV (w:World) (v:Value × Value) (x:Ent):Prop where
 ex:∃A c B d,v=(.slice A x.codes.length c,.slice B x.elems.length d)∧Ints w A x.codes∧Elts w B x.elems
theorem EntV.below {w w':World} {v:Value × Value} {x:Ent} (h:EntV w v x) (hb:Below w.heap.size w w'):EntV w' v x:=by
 obtain ⟨A,c,B,d,hv,h1,h2⟩:=h.ex
 exact ⟨A,c,B,d,hv,h1.below hb,h2.below hb⟩
def Ents (w:World) (A:Option Addr) (xs:List Ent):Prop:=
 ∃vs:List (Value × Value),vs.length=xs.length∧Recs (fun v=>[v.1,v.2]) w A vs∧∀i,(hi:i < xs.length)→(hv:i < vs.length)→EntV w vs[i] xs[i]
theorem Ents.below {w w':World} {A:Option Addr} {xs:List Ent} (h:Ents w A xs) (hb:Below w.heap.size w w'):Ents w' A xs:=by
 obtain ⟨vs,h1,h2,h3⟩:=h
 exact ⟨vs,h1,h2.below hb,fun i hi hv=>(h3 i hi hv).below hb⟩
theorem Ents.at {w:World} {A:Option Addr} {xs:List Ent} (h:Ents w A xs) {m:Nat} (hm:m < xs.length) :
  ∃b o,A=some ⟨b,o,none⟩∧b < w.heap.size∧∀i,(hi:i < xs.length)→∃C c E d,w.cell? ⟨b,o+i*2,none⟩=some (.slice C xs[i].codes.length c)∧w.cell? ⟨b,o+i*2+1,none⟩=some (.slice E xs[i].elems.length d)∧Ints w C xs[i].codes∧Elts w E xs[i].elems:=by
 obtain ⟨vs,h1,h2,h3⟩:=h
 obtain ⟨b,o,rfl,hb,hc⟩:=Recs.at 2 (fun _=>rfl) (by omega) h2 (m:=m) (by omega)
 refine ⟨b,o,rfl,hb,fun i hi=>?_⟩
 obtain ⟨C,c,E,d,hv,e1,e2⟩:=(h3 i hi (by omega)).ex
 refine ⟨C,c,E,d,?_,?_,e1,e2⟩
 ·have:=hc i (by omega) 0 vs[i].1 rfl;rw [hv] at this;exact this
 ·have:=hc i (by omega) 1 vs[i].2 rfl;rw [hv] at this;exact this
def colV (A:Option Addr) (n a:Nat) (B:Option Addr) (m b:Nat) (c:Col):Value:=.agg #[.slice A n a,.slice B m b,.int .i64 c.base,.int .i64 c.second,.int .i64 c.third]
structure ColAt (w:World) (A:Option Addr) (n:Nat) (B:Option Addr) (m:Nat) (c:Col):Prop where
 ents:Ents w A c.ents
 grps:Grps w B c.grps
 hn:c.ents.length=n
 hm:c.grps.length=m
 hs:∀g ∈ c.grps,g.name.size≤9223372036854775807
theorem ColAt.below {w w':World} {A:Option Addr} {n:Nat} {B:Option Addr} {m:Nat} {c:Col} (h:ColAt w A n B m c) (hb:Below w.heap.size w w'):ColAt w' A n B m c:=⟨h.ents.below hb,h.grps.below hb,h.hn,h.hm,h.hs⟩
def inR (lo hi n:Int):Bool:=decide (lo≤n)&&decide (n≤hi)
theorem inR_true {lo hi n:Int} (h1:lo≤n) (h2:n≤hi):inR lo hi n=true:=by simp [inR,h1,h2]
theorem inR_lo {lo hi n:Int} (h:n < lo):inR lo hi n=false:=by simp [inR];omega
theorem inR_hi {lo hi n:Int} (h:hi < n):inR lo hi n=false:=by simp [inR];omega
theorem inR_iff {lo hi n:Int}:inR lo hi n=true ↔ lo≤n∧n≤hi:=by simp [inR]
theorem inR_false {lo hi n:Int}:inR lo hi n=false ↔ n < lo∨hi < n:=by simp [inR];omega
def eltErr (e:Elt):Int:=
 if e.p < 0∨65535 < e.p∨e.s < 0∨65535 < e.s∨e.t < 0∨65535 < e.t then 1
 else if (e.p≠0∧(e.s=0∨e.t=0))∨(e.s≠0∧e.t=0)∨(e.v=true∧e.p=0) then 11 else 0
def firstErr:List Int→Int
 | []=>0
 | x::r=>if x=0 then firstErr r else x
def entErr1 (base:Int) (x:Ent):Int:=
 if x.codes.length < 1∨8 < x.codes.length∨16 < x.elems.length then 2
 else if x.codes.any (fun c=>decide (c < 0∨1114111 < c)) then 1
 else if firstErr (x.elems.map eltErr)≠0 then firstErr (x.elems.map eltErr)
 else if x.elems.any (fun e=>decide (base≤e.p)) then 1 else 0
def entsErr (base:Int):List Ent→Option Ent→Int
 | [],_=>0
 | x::r,prev=>if entErr1 base x≠0 then entErr1 base x else match prev with
  | none=>entsErr base r (some x)
  | some y=>if 0≤cmpL y.codes x.codes then 4 else entsErr base r (some x)
def gap:List Grp→Bool
 | g::h::r=>decide (h.lo≠g.hi+1) || gap (h::r)
 | _=>false
def badG (base:Int) (g:Grp):Prop:=g.lo < 1∨g.hi < g.lo∨base≤g.hi
instance (base:Int) (g:Grp):Decidable (badG base g):=by unfold badG;exact inferInstance
def grpErr (base:Int) (gs:List Grp):Int:=
 if gs.any (fun g=>!nameOk g.name) then 6
 else if ¬(gs.map Grp.name).Nodup then 5
 else if gs.any (fun g=>decide (badG base g)) then 1
 else if gap gs then 4 else 0
def colErr (c:Col):Int:=
 if c.base < 1∨65502 < c.base∨inR 1 65535 c.second=false∨inR 1 65535 c.third=false then 1
 else if grpErr c.base c.grps≠0 then grpErr c.base c.grps
 else entsErr c.base c.ents none
theorem anyT {α:Type} {p:α→Bool} {xs:List α} {k:Nat} (hk:k < xs.length) (h:p xs[k]=true):xs.any p=true:=List.any_eq_true.2 ⟨xs[k],List.getElem_mem hk,h⟩
theorem anyF {α:Type} {p:α→Bool} {xs:List α} (h:∀t,(ht:t < xs.length)→p xs[t]=false):xs.any p=false:=by
 rw [List.any_eq_false]
 intro x hx
 obtain ⟨i,hi,rfl⟩:=List.getElem_of_mem hx
 rw [h i hi];simp
theorem gap_true {gs:List Grp} {k:Nat} (hk:k+1 < gs.length) (h:gs[k+1].lo≠gs[k].hi+1):gap gs=true:=by
 induction gs generalizing k with
 | nil=>simp at hk
 | cons a r ih=>
  cases r with
  | nil=>simp at hk
  | cons b r=>
   cases k with
   | zero=>simp only [List.getElem_cons_zero,List.getElem_cons_succ] at h;simp [gap,h]
   | succ k=>
    simp only [gap,Bool.or_eq_true]
    right
    exact ih (k:=k) (by simpa using hk) (by simpa using h)
theorem gap_false {gs:List Grp} (h:∀t,(ht:t+1 < gs.length)→gs[t+1].lo=gs[t].hi+1):gap gs=false:=by
 induction gs with
 | nil=>rfl
 | cons a r ih=>
  cases r with
  | nil=>rfl
  | cons b r=>
   have h0:=h 0 (by simp)
   simp only [List.getElem_cons_zero,List.getElem_cons_succ] at h0
   simp only [gap,Bool.or_eq_false_iff]
   refine ⟨by simpa using h0,ih fun t ht=>?_⟩
   have:=h (t+1) (by simpa using ht)
   simpa using this
section
variable {base:Int} {gs:List Grp}
theorem grp6 {k:Nat} (hk:k < gs.length) (h:nameOk gs[k].name=false):grpErr base gs=6:=by
 unfold grpErr;rw [if_pos (anyT hk (by simp [h]))]
theorem grp_names (h:∀t,(ht:t < gs.length)→nameOk gs[t].name=true):gs.any (fun g=>!nameOk g.name)=false:=anyF fun t ht=>by simp [h t ht]
theorem grp5 (h6:∀t,(ht:t < gs.length)→nameOk gs[t].name=true) (h:¬(gs.map Grp.name).Nodup):grpErr base gs=5:=by
 unfold grpErr;rw [if_neg (by rw [grp_names h6];simp),if_pos h]
theorem grp1 (h6:∀t,(ht:t < gs.length)→nameOk gs[t].name=true) (h5:(gs.map Grp.name).Nodup) {k:Nat} (hk:k < gs.length) (h:badG base gs[k]):grpErr base gs=1:=by
 unfold grpErr;rw [if_neg (by rw [grp_names h6];simp),if_neg (by simpa using h5),if_pos (anyT hk (by simpa using h))]
theorem grp4 (h6:∀t,(ht:t < gs.length)→nameOk gs[t].name=true) (h5:(gs.map Grp.name).Nodup) (h1:∀t,(ht:t < gs.length)→¬badG base gs[t]) {k:Nat} (hk:k+1 < gs.length) (h:gs[k+1].lo≠gs[k].hi+1):grpErr base gs=4:=by
 unfold grpErr;rw [if_neg (by rw [grp_names h6];simp),if_neg (by simpa using h5),if_neg (by rw [anyF fun t ht=>by simpa using h1 t ht];simp),if_pos (gap_true hk h)]
theorem grp0 (h6:∀t,(ht:t < gs.length)→nameOk gs[t].name=true) (h5:(gs.map Grp.name).Nodup) (h1:∀t,(ht:t < gs.length)→¬badG base gs[t]) (h:∀t,(ht:t+1 < gs.length)→gs[t+1].lo=gs[t].hi+1):grpErr base gs=0:=by
 unfold grpErr;rw [if_neg (by rw [grp_names h6];simp),if_neg (by simpa using h5),if_neg (by rw [anyF fun t ht=>by simpa using h1 t ht];simp),if_neg (by rw [gap_false h];simp)]
theorem all_up {α:Type} {xs:List α} {P:α→Prop} {i:Nat} (hlt:i < xs.length) (h:∀t,(ht:t < xs.length)→t < i→P xs[t]) (hi:P xs[i]):∀t,(ht:t < xs.length)→t < i+1→P xs[t]:=by
 intro t ht g
 by_cases e:t < i
 ·exact h t ht e
 ·obtain rfl:t=i:=by omega
  exact hi
def nms (gs:List Grp) (k:Nat):List ByteArray:=(gs.take k).map Grp.name
theorem nms_succ {k:Nat} (hk:k < gs.length):nms gs (k+1)=nms gs k++[gs[k].name]:=by
 unfold nms;rw [List.take_succ_eq_append_getElem hk,List.map_append];rfl
theorem nms_all:nms gs gs.length=gs.map Grp.name:=by unfold nms;rw [List.take_length]
theorem nms_dup {k:Nat} (hk:k < gs.length) (h:gs[k].name ∈ nms gs k):¬(gs.map Grp.name).Nodup:=by
 intro hn
 have hs:(nms gs (k+1)).Sublist (gs.map Grp.name):=by
  unfold nms;exact (List.take_sublist _ _).map _
 have h1:=hn.sublist hs
 rw [nms_succ hk,List.nodup_append] at h1
 exact h1.2.2 _ h _ (List.mem_singleton.2 rfl) rfl
theorem nms_nodup {k:Nat} (hk:k < gs.length) (hn:(nms gs k).Nodup) (h:gs[k].name ∉ nms gs k):(nms gs (k+1)).Nodup:=by
 rw [nms_succ hk,List.nodup_append]
 refine ⟨hn,by simp,fun a ha b hb e=>?_⟩
 rw [List.mem_singleton] at hb
 subst hb;subst e
 exact h ha
end
end Go.Proofs.YtkhmjidaeliccaaGreatDoor
namespace Go.Proofs.YtkhmjidaeliccaaGreatDoor
open Go.RowKit
def RetInt (n:Int) (w:World) (e:Ending) (w':World):Prop:=e=.returned (.int .i64 n)∧Below w.heap.size w w'
def RetBool (x:Bool) (w:World) (e:Ending) (w':World):Prop:=e=.returned (.bool x)∧Below w.heap.size w w'
def RetTrue (w:World) (e:Ending) (w':World):Prop:=e=.returned (.bool true)∧Below w.heap.size w w'
theorem isWeight_any (n:Int) (w:World):Calls Tryz.prog 67 #[.int .i64 n] w fun e w'=>e=.returned (.bool (inR 1 65535 n))∧w=w':=by
 by_cases h1:1≤n
 ·by_cases h2:n≤65535
  ·rw [inR_true h1 h2]
   go_enter Tryz.func67,Tryz.ntmps67
   go_wp2
   go_ret
   exact ⟨rfl,rfl⟩
  ·rw [inR_hi (show 65535 < n by omega)]
   go_enter Tryz.func67,Tryz.ntmps67
   go_wp2
   go_ret
   exact ⟨rfl,rfl⟩
 ·rw [inR_lo (show n < 1 by omega)]
  go_enter Tryz.func67,Tryz.ntmps67
  go_wp2
  go_ret
  exact ⟨rfl,rfl⟩
theorem weight42_any (n:Int) (w:World):Calls Tryz.prog 186 #[.int .i64 n] w fun e w'=>e=.returned (.bool (inR 0 65535 n))∧w=w':=by
 by_cases h1:0≤n
 ·by_cases h2:n≤65535
  ·rw [inR_true h1 h2]
   go_enter Tryz.func186,Tryz.ntmps186
   go_wp2
   go_ret
   exact ⟨rfl,rfl⟩
  ·rw [inR_hi (show 65535 < n by omega)]
   go_enter Tryz.func186,Tryz.ntmps186
   go_wp2
   go_ret
   exact ⟨rfl,rfl⟩
 ·rw [inR_lo (show n < 0 by omega)]
  go_enter Tryz.func186,Tryz.ntmps186
  go_wp2
  go_ret
  exact ⟨rfl,rfl⟩
theorem cpValid_any (n:Int) (w:World):Calls Tryz.prog 129 #[.int .i64 n] w fun e w'=>e=.returned (.bool (inR 0 1114111 n))∧w=w':=by
 by_cases h1:0≤n
 ·by_cases h2:n≤1114111
  ·rw [inR_true h1 h2]
   go_enter Tryz.func129,Tryz.ntmps129
   go_wp2
   go_ret
   exact ⟨rfl,rfl⟩
  ·rw [inR_hi (show 1114111 < n by omega)]
   go_enter Tryz.func129,Tryz.ntmps129
   go_wp2
   go_ret
   exact ⟨rfl,rfl⟩
 ·rw [inR_lo (show n < 0 by omega)]
  go_enter Tryz.func129,Tryz.ntmps129
  go_wp2
  go_ret
  exact ⟨rfl,rfl⟩
theorem z01 (p:Int):((p==0)=true∧(p != 0)=false∧Hid (p=0))∨((p==0)=false∧(p != 0)=true∧Hid (p≠0)):=by
 unfold Hid
 by_cases h:p=0
 ·left;simp [h]
 ·right;simp [h]
theorem idx3 (x y z:Value) (W:World):(Instr.index 145 (.agg #[x,y,z]) (.int .i64 0)).run Tryz.prog W=.ok x W∧(Instr.index 145 (.agg #[x,y,z]) (.int .i64 1)).run Tryz.prog W=.ok y W∧(Instr.index 145 (.agg #[x,y,z]) (.int .i64 2)).run Tryz.prog W=.ok z W:=⟨by kernel_rfl,by kernel_rfl,by kernel_rfl⟩
theorem eltCheck_any (e:Elt) (w:World):Calls Tryz.prog 130 #[.agg #[.int .i64 e.p,.int .i64 e.s,.int .i64 e.t,.bool e.v]] w (RetInt (eltErr e) w):=by
 obtain ⟨p,s,t,v⟩:=e
 have H1:=Lib.hid (fun (h:p < 0∨65535 < p∨s < 0∨65535 < s∨t < 0∨65535 < t)=>show eltErr ⟨p,s,t,v⟩=1 by unfold eltErr;rw [if_pos h])
 have H2:=Lib.hid (fun (h:¬(p < 0∨65535 < p∨s < 0∨65535 < s∨t < 0∨65535 < t))=>show eltErr ⟨p,s,t,v⟩=if (p≠0∧(s=0∨t=0))∨(s≠0∧t=0)∨(v=true∧p=0) then 11 else 0 by unfold eltErr;rw [if_neg h])
 have x0:=fun W=>(idx3 (.int .i64 p) (.int .i64 s) (.int .i64 t) W).1
 have x1:=fun W=>(idx3 (.int .i64 p) (.int .i64 s) (.int .i64 t) W).2.1
 have x2:=fun W=>(idx3 (.int .i64 p) (.int .i64 s) (.int .i64 t) W).2.2
 have BEL:=Lib.hid ((Below.refl w.heap.size w).alloc (Nat.le_refl _) (.cells #[.int .i64 p,.int .i64 s,.int .i64 t,.bool v] 77))
 generalize eltErr ⟨p,s,t,v⟩=R at *
 dsimp only
 go_enter Tryz.func130,Tryz.ntmps130
 go_wp2
 go_loop [4,12] (fun _ u=>∃j:Int,0≤j∧j≤3∧u=.int .i64 j∧(0 < j→0≤p∧p≤65535)∧(1 < j→0≤s∧s≤65535)∧(2 < j→0≤t∧t≤65535)) (fun _ u=>3 - (intOf u).toNat)
 case atStart=>exact ⟨0,by omega,by omega,rfl,by omega,by omega,by omega⟩
 case round=>
  obtain ⟨j,hj0,hj3,rfl,g0,g1,g2⟩:=hrel
  obtain rfl | rfl | rfl | rfl:j=0∨j=1∨j=2∨j=3:=by omega
  ·clear g0 g1 g2
   go_wp2
   all_goals first
    | (go_ret;exact ⟨ret_int (H1.out (by omega)).symm,BEL.out⟩)
    | (go_round
       case rel=>exact ⟨1,by omega,by omega,rfl,by omega,by omega,by omega⟩
       case measure=>simp [intOf])
  ·have G0:=g0 (by omega)
   clear g0 g1 g2
   go_wp2
   all_goals first
    | (go_ret;exact ⟨ret_int (H1.out (by omega)).symm,BEL.out⟩)
    | (go_round
       case rel=>exact ⟨2,by omega,by omega,rfl,by omega,by omega,by omega⟩
       case measure=>simp [intOf])
  ·have G0:=g0 (by omega)
   have G1:=g1 (by omega)
   clear g0 g1 g2
   go_wp2
   all_goals first
    | (go_ret;exact ⟨ret_int (H1.out (by omega)).symm,BEL.out⟩)
    | (go_round
       case rel=>exact ⟨3,by omega,by omega,rfl,by omega,by omega,by omega⟩
       case measure=>simp [intOf])
  ·have G0:=g0 (by omega)
   have G1:=g1 (by omega)
   have G2:=g2 (by omega)
   have H3:=Lib.hid (H2.out (by omega))
   clear g0 g1 g2 H1 H2 G0 G1 G2 x0 x1 x2
   rcases z01 p with ⟨p1,p2,p3⟩ | ⟨p1,p2,p3⟩ <;> rcases z01 s with ⟨s1,s2,s3⟩ | ⟨s1,s2,s3⟩ <;> rcases z01 t with ⟨t1,t2,t3⟩ | ⟨t1,t2,t3⟩ <;> cases v
   all_goals
    go_wp2
    go_ret
    refine ⟨ret_int ?_,BEL.out⟩
    rw [H3.out]
    simp [p3.out,s3.out,t3.out]
end Go.Proofs.YtkhmjidaeliccaaGreatDoor
namespace Go.Proofs.YtkhmjidaeliccaaGreatDoor
section
variable {P:Program} {ops:Array Oper} {Q:Exit→Act→World→Prop} {md:Region.Mode} {S:World→Prop}
theorem anyH_take {i:Nat} {oi:Oper} {v:Value} {fuel:Nat} {listed:Array Bool} {a:Act} {w:World} (d:Option Tmp) (hi:ops[i]?=some oi) (hd:oi.dst=d)
  (hs:Region.noSelect ops=true) (hf:Region.free md ops listed i=true) (hr:(Region.ready md ops listed).contains i=true)
  (hQ:∀c a w,Q (.panic c) (a.put d v) w→Q (.panic c) a w) (hw:Region.wanted oi (yielded ops a.tmps)=true) (hS:S w) (hv:∀w,S w→(execOp a.eval oi).run P w=.ok (.value v) w)
  (h:wpAnyH P md ops Q S fuel (listed.setIfInBounds i true) (a.put d v) w):wpAnyH P md ops Q S (fuel+1) listed a w:=by
 subst hd
 exact wpAnyH_take hi hs hf hr hQ (Or.inl ⟨hw,hv⟩) hS h
theorem anyH_skip {i:Nat} {oi:Oper} {fuel:Nat} {listed:Array Bool} {a:Act} {w:World} (d:Option Tmp) (hi:ops[i]?=some oi) (hd:oi.dst=d)
  (hs:Region.noSelect ops=true) (hf:Region.free md ops listed i=true) (hr:(Region.ready md ops listed).contains i=true)
  (hQ:∀c a w,Q (.panic c) (a.put d undef) w→Q (.panic c) a w) (hw:Region.wanted oi (yielded ops a.tmps)=false) (hS:S w)
  (h:wpAnyH P md ops Q S fuel (listed.setIfInBounds i true) (a.put d undef) w):wpAnyH P md ops Q S (fuel+1) listed a w:=by
 subst hd
 exact wpAnyH_take hi hs hf hr hQ (Or.inr ⟨hw,rfl⟩) hS h
theorem anyH_call {i:Nat} {oi:Oper} {fuel:Nat} {listed:Array Bool} {a:Act} {w:World} (d:Option Tmp) {f:FuncId} {args:Array Value} {v:Value} (hi:ops[i]?=some oi) (hd:oi.dst=d)
  (hr:Region.ready md ops listed=[i]) (hw:Region.wanted oi (yielded ops a.tmps)=true) (he:(execOp a.eval oi).run P w=.ok (.enter f args) w)
  (hc:Calls P f args w (fun e w'=>e=.returned v∧S w'))
  (h:∀w',S w'→wpAnyH P md ops Q S fuel (listed.setIfInBounds i true) (a.put d v) w'):wpAnyH P md ops Q S (fuel+1) listed a w:=by
 subst hd
 refine wpAnyH_ready hr (by simp) (AllReadyH.cons hi (fun K hK=>?_) AllReadyH.nil)
 rw [if_pos hw]
 unfold Oper.wp
 rw [he]
 simp only [Oper.upon]
 refine hc.mono ?_
 rintro e w' ⟨rfl,hS'⟩
 exact hK.out _ _ hS' (fun hh=>h w' hh)
end
section
variable {P:Program} {ops:Array Oper} {Q:Exit→Act→World→Prop} {md:Region.Mode} {S:World→Prop}
theorem tK {v:Value} (i k:Nat) {oi:Oper} {fuel:Nat} {listed l':Array Bool} {a a':Act} {w:World}
  (h:wpAnyH P md ops Q S fuel l' a' w) (hi:ops[i]?=some oi:=by rfl) (hd:oi.dst=some k:=by rfl)
  (hs:Region.noSelect ops=true:=by kernel_rfl) (hf:Region.free md ops listed i=true:=by kernel_rfl) (hr:(Region.ready md ops listed).contains i=true:=by kernel_rfl)
  (hQ:∀c a w,Q (.panic c) (a.put (some k) v) w→Q (.panic c) a w:=by exact fun _ _ _ h=>h) (hw:Region.wanted oi (yielded ops a.tmps)=true:=by rfl) (hS:S w:=by assumption)
  (hv:∀w,S w→(execOp a.eval oi).run P w=.ok (.value v) w:=by intro w hSw;(try dsimp only at hSw);go_split_ands;go_simp;try (with_reducible rfl))
  (hl:listed.setIfInBounds i true=l':=by (try simp only [List.setIfInBounds_toArray,List.set_cons_zero,List.set_cons_succ]);first | done | rfl)
  (ha:a.put (some k) v=a':=by (try simp only [Act.put,List.setIfInBounds_toArray,List.set_cons_zero,List.set_cons_succ]);first | done | rfl):wpAnyH P md ops Q S (fuel+1) listed a w:=by
 subst hl;subst ha
 exact anyH_take (some k) hi hd hs hf hr hQ hw hS hv h
theorem sK (i k:Nat) {oi:Oper} {fuel:Nat} {listed l':Array Bool} {a a':Act} {w:World}
  (h:wpAnyH P md ops Q S fuel l' a' w) (hi:ops[i]?=some oi:=by rfl) (hd:oi.dst=some k:=by rfl)
  (hs:Region.noSelect ops=true:=by kernel_rfl) (hf:Region.free md ops listed i=true:=by kernel_rfl) (hr:(Region.ready md ops listed).contains i=true:=by kernel_rfl)
  (hQ:∀c a w,Q (.panic c) (a.put (some k) undef) w→Q (.panic c) a w:=by exact fun _ _ _ h=>h) (hw:Region.wanted oi (yielded ops a.tmps)=false:=by rfl) (hS:S w:=by assumption)
  (hl:listed.setIfInBounds i true=l':=by (try simp only [List.setIfInBounds_toArray,List.set_cons_zero,List.set_cons_succ]);first | done | rfl)
  (ha:a.put (some k) undef=a':=by (try simp only [Act.put,List.setIfInBounds_toArray,List.set_cons_zero,List.set_cons_succ]);first | done | rfl):wpAnyH P md ops Q S (fuel+1) listed a w:=by
 subst hl;subst ha
 exact anyH_skip (some k) hi hd hs hf hr hQ hw hS h
theorem tV (i k:Nat) (v:Value) {oi:Oper} {fuel:Nat} {listed:Array Bool} {a:Act} {w:World}
  (hv:∀w,S w→(execOp a.eval oi).run P w=.ok (.value v) w) (h:wpAnyH P md ops Q S fuel (listed.setIfInBounds i true) (a.put (some k) v) w) (hi:ops[i]?=some oi:=by rfl) (hd:oi.dst=some k:=by rfl)
  (hs:Region.noSelect ops=true:=by kernel_rfl) (hf:Region.free md ops listed i=true:=by kernel_rfl) (hr:(Region.ready md ops listed).contains i=true:=by kernel_rfl)
  (hQ:∀c a w,Q (.panic c) (a.put (some k) v) w→Q (.panic c) a w:=by exact fun _ _ _ h=>h) (hw:Region.wanted oi (yielded ops a.tmps)=true:=by rfl) (hS:S w:=by assumption):wpAnyH P md ops Q S (fuel+1) listed a w:=
 anyH_take (some k) hi hd hs hf hr hQ hw hS hv h
end
end Go.Proofs.YtkhmjidaeliccaaGreatDoor
namespace Go.Proofs.YtkhmjidaeliccaaGreatDoor
open Go.RowKit Go.Maps Go.WideMaps
def elemV (v:Value):Option (DataW Value × List MemPlace):=some (.held v,[])
def MapIs {κ:Type} (P:Program) (k:TypeId) (kl:κ→Lit) (ok:κ→Prop) (w:World) (b n:Nat) (f:κ→Option Value):Prop:=
 ∃D:DataW Value,w.ownsMap P k elemV b n D∧∀x,ok x→Maps.has D (kl x)=(f x).isSome∧∀z,D.atKey (kl x) (.held z)=.held ((f x).getD z)
section
variable {κ:Type} {P:Program} {k:TypeId} {kl:κ→Lit} {ok:κ→Prop} {w w':World} {b n:Nat} {f:κ→Option Value}
theorem MapIs.made (P:Program) (k:TypeId) (kl:κ→Lit) (ok:κ→Prop) (w:World):MapIs P k kl ok (w.alloc (.map #[] 0)) w.heap.size 0 (fun _=>none):=
 ⟨.map [],World.ownsMap_made w P k elemV,fun _ _=>⟨rfl,fun _=>rfl⟩⟩
theorem MapIs.lt (h:MapIs P k kl ok w b n f):b < w.heap.size:=h.elim fun _ h=>h.1.lt
theorem MapIs.kept {row:Option Nat} (h:MapIs P k kl ok w b n f) (hg:w.grownBy w' row) (hne:some b≠row):MapIs P k kl ok w' b n f:=by
 obtain ⟨D,h1,h2⟩:=h
 exact ⟨D,h1.kept hg hne,h2⟩
theorem MapIs.below (h:MapIs P k kl ok w b n f) (hb:Below w.heap.size w w'):MapIs P k kl ok w' b n f:=
 h.kept (row:=none) ⟨hb.os,hb.tape,hb.output,hb.size,fun k hk _=>hb.block k hk⟩ (by simp)
theorem MapIs.alloc (h:MapIs P k kl ok w b n f) (o:Obj):MapIs P k kl ok (w.alloc o) b n f:=h.below ((Below.refl _ _).alloc (Nat.le_refl _) _)
theorem MapIs.mono (h:MapIs P k kl ok w b n f) {m:Nat} (hm:n≤m):MapIs P k kl ok w b m f:=by
 obtain ⟨D,h1,h2⟩:=h
 exact ⟨D,h1.mono hm,h2⟩
theorem MapIs.ext (h:MapIs P k kl ok w b n f) {g:κ→Option Value} (hg:∀x,ok x→g x=f x):MapIs P k kl ok w b n g:=by
 obtain ⟨D,h1,h2⟩:=h
 exact ⟨D,h1,fun x hx=>by rw [hg x hx];exact h2 x hx⟩
theorem MapIs.look {t e:TypeId} (h:MapIs P k kl ok w b n f) (K:Keyed P k) (ht:P.underlying t=some (.map k e)) {z:Value} (hz:(zeroValue e).run P w=.ok z w) {key:Value} {x:κ} (hx:ok x) (hkey:keyOf P k key=some (kl x)) :
  (Instr.lookup t (.map (some b)) key false).run P w=.ok ((f x).getD z) w:=by
 obtain ⟨D,h1,h2⟩:=h
 obtain ⟨v,ps,hrun,hv⟩:=h1.lookup K ht hz (zd:=.held z) (zp:=[]) rfl hkey
 rw [(h2 x hx).2] at hv
 simp only [elemV,Option.some.injEq,Prod.mk.injEq,DataW.held.injEq] at hv
 rw [hrun,hv.1]
theorem MapIs.lookOk {t e:TypeId} (h:MapIs P k kl ok w b n f) (K:Keyed P k) (ht:P.underlying t=some (.map k e)) {z:Value} (hz:(zeroValue e).run P w=.ok z w) {key:Value} {x:κ} (hx:ok x) (hkey:keyOf P k key=some (kl x)) :
  (Instr.lookup t (.map (some b)) key true).run P w=.ok (.tuple #[(f x).getD z,.bool (f x).isSome]) w:=by
 obtain ⟨D,h1,h2⟩:=h
 obtain ⟨v,ps,hrun,hv⟩:=h1.look_ok K ht hz (zd:=.held z) (zp:=[]) rfl hkey
 rw [(h2 x hx).2] at hv
 simp only [elemV,Option.some.injEq,Prod.mk.injEq,DataW.held.injEq] at hv
 rw [hrun,hv.1,(h2 x hx).1]
theorem MapIs.put [DecidableEq κ] {t e:TypeId} (h:MapIs P k kl ok w b n f) (K:Keyed P k) (ht:P.underlying t=some (.map k e)) (hn:n < maxLen) {key v:Value} {x:κ} (hx:ok x) (hkey:keyOf P k key=some (kl x))
  (hinj:∀y,ok y→kl y=kl x→y=x) :
  ∃w',(Instr.mapUpdate t (.map (some b)) key v).run P w=.ok () w'∧MapIs P k kl ok w' b (n+1) (fun y=>if y=x then some v else f y)∧w.grownBy w' (some b):=by
 obtain ⟨D,h1,h2⟩:=h
 obtain ⟨w',hrun,r1,r2⟩:=h1.update K ht hn hkey (val:=v) (d:=.held v) (ps:=[]) rfl
 refine ⟨w',hrun,⟨_,r1,fun y hy=>?_⟩,r2⟩
 dsimp only
 by_cases e:y=x
 ·subst e
  rw [if_pos rfl]
  exact ⟨by rw [has_put_same h1.isMap (K.key hkey)];rfl,fun z=>atKey_put_same h1.isMap (K.key hkey) _ _⟩
 ·rw [if_neg e]
  have hne:kl y≠kl x:=fun e'=>e (hinj y hy e')
  rw [has_put_other hne]
  exact ⟨(h2 y hy).1,fun z=>(atKey_put_other hne _ _).trans ((h2 y hy).2 z)⟩
end
section
variable {κ:Type} {P:Program} {w:World} {ops:Array Oper} {rest:List Oper} {o:Oper} {a:Act} {Q:Exit→Act→World→Prop}
variable {k:TypeId} {kl:κ→Lit} {ok:κ→Prop} {b n:Nat} {f:κ→Option Value}
theorem wpList_look (hg:o.guard=none) (m y:Operand) (t:TypeId) (hop:o.op=Op.lookup t m y false) {e:TypeId} (h:MapIs P k kl ok w b n f) (K:Keyed P k) (ht:P.underlying t=some (.map k e)) {z:Value} (hz:(zeroValue e).run P w=.ok z w)
  (hm:a.eval m=.map (some b)) {key:Value} {x:κ} (hy:a.eval y=key) (hx:ok x) (hkey:keyOf P k key=some (kl x))
  (hK:wpList P ops Q rest (a.put o.dst ((f x).getD z)) w):wpList P ops Q (o::rest) a w:=by
 refine wpList_plain hg fun K' hK'=>?_
 unfold Oper.wp
 simp [execOp,hop,hm,hy,h.look K ht hz hx hkey,Result.andThen]
 exact hK' _ _ hK
theorem wpList_lookOk (hg:o.guard=none) (m y:Operand) (t:TypeId) (hop:o.op=Op.lookup t m y true) {e:TypeId} (h:MapIs P k kl ok w b n f) (K:Keyed P k) (ht:P.underlying t=some (.map k e)) {z:Value} (hz:(zeroValue e).run P w=.ok z w)
  (hm:a.eval m=.map (some b)) {key:Value} {x:κ} (hy:a.eval y=key) (hx:ok x) (hkey:keyOf P k key=some (kl x))
  (hK:wpList P ops Q rest (a.put o.dst (.tuple #[(f x).getD z,.bool (f x).isSome])) w):wpList P ops Q (o::rest) a w:=by
 refine wpList_plain hg fun K' hK'=>?_
 unfold Oper.wp
 simp [execOp,hop,hm,hy,h.lookOk K ht hz hx hkey,Result.andThen]
 exact hK' _ _ hK
theorem wpList_mput [DecidableEq κ] (hg:o.guard=none) (m y v:Operand) (t:TypeId) (hop:o.op=Op.mapUpdate t m y v) {e:TypeId} (h:MapIs P k kl ok w b n f) (K:Keyed P k) (ht:P.underlying t=some (.map k e)) (hn:n < maxLen)
  (hm:a.eval m=.map (some b)) {key val:Value} {x:κ} (hy:a.eval y=key) (hv:a.eval v=val) (hx:ok x) (hkey:keyOf P k key=some (kl x)) (hinj:∀y,ok y→kl y=kl x→y=x)
  (hK:∀w',MapIs P k kl ok w' b (n+1) (fun y=>if y=x then some val else f y)→w.grownBy w' (some b)→wpList P ops Q rest (a.put o.dst undef) w'):wpList P ops Q (o::rest) a w:=by
 refine wpList_plain hg fun K' hK'=>?_
 obtain ⟨w',hrun,r1,r2⟩:=h.put K ht hn (v:=val) hx hkey hinj
 unfold Oper.wp
 simp [execOp,hop,hm,hy,hv,hrun,Result.andThen]
 exact hK' _ _ (hK w' r1 r2)
end
theorem wf_small {z:Int} (h1:-9223372036854775808≤z) (h2:z≤9223372036854775807):(Lit.int .i64 z).wf=true:=by
 simp only [Lit.wf,Bool.and_eq_true,decide_eq_true_eq]
 exact ⟨h1,h2⟩
theorem below_grown {B:Nat} {a w w':World} {g:Nat} (h:Below B a w) (hg:w.grownBy w' (some g)) (hb:B≤g) (hs:B≤w.heap.size):Below B a w':=
 h.grown hg hs fun k e=>by injection e with e;omega
def skey (s:ByteArray):Lit:=.string s.data.toList
def sok (s:ByteArray):Prop:=s.size≤maxLen
theorem skey_inj {s t:ByteArray} (h:skey s=skey t):s=t:=by
 injection h with h
 cases s;cases t
 simp only [ByteArray.mk.injEq]
 exact Array.toList_inj.1 h
abbrev MapS (P:Program) (k:TypeId) (w:World) (b n:Nat) (f:ByteArray→Option Value):Prop:=MapIs P k skey sok w b n f
end Go.Proofs.YtkhmjidaeliccaaGreatDoor
namespace Go.Proofs.YtkhmjidaeliccaaGreatDoor
open Go.RowKit Go.Maps Go.WideMaps
def Box (w:World) (b:Nat) (t:TypeId) (cs:List Value):Prop:=w.heap[b]?=some (.cells cs.toArray t (0,0))
section
variable {w w':World} {b:Nat} {t:TypeId} {cs:List Value}
theorem Box.lt (h:Box w b t cs):b < w.heap.size:=by
 rcases Nat.lt_or_ge b w.heap.size with g | g
 ·exact g
 ·unfold Box at h;rw [Array.getElem?_eq_none g] at h;cases h
theorem Box.cell (h:Box w b t cs) {i:Nat} {v:Value} (hv:cs[i]?=some v):w.cell? ⟨b,i,none⟩=some v:=by
 unfold Box at h
 simp [World.cell?,h,hv]
theorem Box.free (h:Box w b t cs) (i:Nat):w.frozen? ⟨b,i,none⟩=false:=by
 unfold Box at h
 simp [World.frozen?,h]
theorem Box.new (w:World) (t:TypeId) (cs:List Value) {b:Nat} (hb:b=w.heap.size):Box (w.alloc (.cells cs.toArray t)) b t cs:=by
 subst hb
 show (w.heap.push _)[w.heap.size]?=_
 simp
theorem Box.below {B:Nat} (h:Box w b t cs) (hb:Below B w w') (hg:b < B):Box w' b t cs:=(hb.block b hg).trans h
theorem Box.grown {row:Option Nat} (h:Box w b t cs) (hg:w.grownBy w' row) (hne:some b≠row):Box w' b t cs:=(hg.block b h.lt hne).trans h
theorem Box.set (h:Box w b t cs) (i:Nat) (u:Value):Box (w.setCell ⟨b,i,none⟩ u) b t (cs.set i u):=by
 unfold Box at h ⊢
 simp [World.setCell,Array.getElem?_modify,h]
end
theorem grown_set (w:World) (p:Addr) (u:Value):w.grownBy (w.setCell p u) (some p.block):=
 ⟨rfl,rfl,rfl,by simp [World.setCell],fun k _ hne=>Below.heap_setCell w p u k (fun e=>hne (by rw [e]))⟩
def KeepM (U:Nat) (w w':World):Prop:=w.heap.size≤w'.heap.size∧∀b,b < w.heap.size→b≠U→w'.heap[b]?=w.heap[b]?
section
variable {U:Nat} {a b c:World}
theorem KeepM.refl (U:Nat) (a:World):KeepM U a a:=⟨Nat.le_refl _,fun _ _ _=>rfl⟩
theorem KeepM.below (h:KeepM U a b) (hb:Below b.heap.size b c):KeepM U a c:=⟨Nat.le_trans h.1 hb.size,fun q hq hn=>(hb.block q (Nat.lt_of_lt_of_le hq h.1)).trans (h.2 q hq hn)⟩
theorem KeepM.grown (h:KeepM U a b) (hg:b.grownBy c (some U)):KeepM U a c:=⟨Nat.le_trans h.1 hg.size,fun q hq hn=>(hg.block q (Nat.lt_of_lt_of_le hq h.1) (fun e=>hn (by injection e))).trans (h.2 q hq hn)⟩
theorem KeepM.sl {A:Option Addr} {cs:List Value} (h:KeepM U a b) (hU:∀o,a.cell? ⟨U,o,none⟩=none) (hs:Sl a A cs):Sl b A cs:=fun hne=>by
 obtain ⟨q,o,rfl,hc⟩:=hs hne
 refine ⟨q,o,rfl,fun j u hu=>?_⟩
 have h1:=hc j u hu
 have hq:q≠U:=fun e=>by rw [e,hU] at h1;cases h1
 exact (World.cell?_of_block (h.2 q (World.block_lt_of_cell? a _ h1) hq)).trans h1
end
theorem MapIs.nocell {κ:Type} {P:Program} {k:TypeId} {kl:κ→Lit} {ok:κ→Prop} {w:World} {b n:Nat} {f:κ→Option Value} (h:MapIs P k kl ok w b n f) (o:Nat):w.cell? ⟨b,o,none⟩=none:=by
 obtain ⟨D,⟨es,clock,h1,_⟩,_⟩:=h
 simp [World.cell?,h1]
section
variable {P:Program} {ops:Array Oper} {Q:Exit→Act→World→Prop} {md:Region.Mode} {S:World→Prop}
theorem anyH_callR {R:World→Prop} {i:Nat} {oi:Oper} {fuel:Nat} {listed:Array Bool} {a:Act} {w:World} (d:Option Tmp) {f:FuncId} {args:Array Value} {v:Value} (hi:ops[i]?=some oi) (hd:oi.dst=d)
  (hr:Region.ready md ops listed=[i]) (hw:Region.wanted oi (yielded ops a.tmps)=true) (he:(execOp a.eval oi).run P w=.ok (.enter f args) w)
  (hc:Calls P f args w (fun e w'=>e=.returned v∧S w'∧R w'))
  (h:∀w',S w'→R w'→wpAnyH P md ops Q S fuel (listed.setIfInBounds i true) (a.put d v) w'):wpAnyH P md ops Q S (fuel+1) listed a w:=by
 subst hd
 refine wpAnyH_ready hr (by simp) (AllReadyH.cons hi (fun K hK=>?_) AllReadyH.nil)
 rw [if_pos hw]
 unfold Oper.wp
 rw [he]
 simp only [Oper.upon]
 refine hc.mono ?_
 rintro e w' ⟨rfl,hS',hR'⟩
 exact hK.out _ _ hS' (fun hh=>h w' hh hR')
theorem anyH_do {i:Nat} {oi:Oper} {fuel:Nat} {listed:Array Bool} {a:Act} {w:World} (hi:ops[i]?=some oi)
  (hr:Region.ready md ops listed=[i]) (hw:Region.wanted oi (yielded ops a.tmps)=true)
  (h:∀K:Act→World→Prop,Shut (∀a w,S w→(S w→wpAnyH P md ops Q S fuel (listed.setIfInBounds i true) a w)→K a w)→Oper.wp P oi a w K Q):wpAnyH P md ops Q S (fuel+1) listed a w:=by
 refine wpAnyH_ready hr (by simp) (AllReadyH.cons hi (fun K hK=>?_) AllReadyH.nil)
 rw [if_pos hw]
 exact h K hK
theorem anyH_val {i:Nat} {oi:Oper} {fuel:Nat} {listed:Array Bool} {a:Act} {w w':World} {v:Value} (d:Option Tmp) (hi:ops[i]?=some oi) (hd:oi.dst=d)
  (hr:Region.ready md ops listed=[i]) (hw:Region.wanted oi (yielded ops a.tmps)=true) (he:(execOp a.eval oi).run P w=.ok (.value v) w') (hS:S w')
  (h:wpAnyH P md ops Q S fuel (listed.setIfInBounds i true) (a.put d v) w'):wpAnyH P md ops Q S (fuel+1) listed a w:=by
 subst hd
 refine anyH_do hi hr hw (fun K hK=>?_)
 unfold Oper.wp
 rw [he]
 simp only [Oper.upon]
 exact hK.out _ _ hS (fun _=>h)
theorem anyH_mput {κ:Type} [DecidableEq κ] {k:TypeId} {kl:κ→Lit} {ok:κ→Prop} {b n:Nat} {f:κ→Option Value} {i:Nat} {oi:Oper} {fuel:Nat} {listed:Array Bool} {a:Act} {w:World} (d:Option Tmp) (hi:ops[i]?=some oi) (hd:oi.dst=d)
  (hr:Region.ready md ops listed=[i]) (hw:Region.wanted oi (yielded ops a.tmps)=true) (m y v:Operand) (t:TypeId) (hop:oi.op=Op.mapUpdate t m y v) {e:TypeId} (h:MapIs P k kl ok w b n f) (K:Keyed P k) (ht:P.underlying t=some (.map k e)) (hn:n < maxLen)
  (hm:a.eval m=.map (some b)) {key val:Value} {x:κ} (hy:a.eval y=key) (hv:a.eval v=val) (hx:ok x) (hkey:keyOf P k key=some (kl x)) (hinj:∀y,ok y→kl y=kl x→y=x)
  (hS:∀w',w.grownBy w' (some b)→S w')
  (hK:∀w',MapIs P k kl ok w' b (n+1) (fun y=>if y=x then some val else f y)→w.grownBy w' (some b)→wpAnyH P md ops Q S fuel (listed.setIfInBounds i true) (a.put d undef) w'):wpAnyH P md ops Q S (fuel+1) listed a w:=by
 subst hd
 refine anyH_do hi hr hw (fun K' hK'=>?_)
 obtain ⟨w',hrun,r1,r2⟩:=h.put K ht hn (v:=val) hx hkey hinj
 unfold Oper.wp
 simp [execOp,hop,hm,hy,hv,hrun,Result.andThen]
 exact hK'.out _ _ (hS w' r2) (fun _=>hK w' r1 r2)
theorem anyH_lookOk {κ:Type} {k:TypeId} {kl:κ→Lit} {ok:κ→Prop} {b n:Nat} {f:κ→Option Value} {i:Nat} {oi:Oper} {v:Value} {fuel:Nat} {listed:Array Bool} {a:Act} {w:World} (d:Option Tmp) (hi:ops[i]?=some oi) (hd:oi.dst=d)
  (hs:Region.noSelect ops=true) (hf:Region.free md ops listed i=true) (hr:(Region.ready md ops listed).contains i=true)
  (hQ:∀c a w,Q (.panic c) (a.put d v) w→Q (.panic c) a w) (hw:Region.wanted oi (yielded ops a.tmps)=true) (hS:S w)
  (m y:Operand) (t:TypeId) (hop:oi.op=Op.lookup t m y true) {e:TypeId} (h:∀w,S w→MapIs P k kl ok w b n f) (K:Keyed P k) (ht:P.underlying t=some (.map k e)) {z:Value} (hz:∀w,(zeroValue e).run P w=.ok z w)
  (hm:a.eval m=.map (some b)) {key:Value} {x:κ} (hy:a.eval y=key) (hx:ok x) (hkey:keyOf P k key=some (kl x)) (hv:.tuple #[(f x).getD z,.bool (f x).isSome]=v)
  (hK:wpAnyH P md ops Q S fuel (listed.setIfInBounds i true) (a.put d v) w):wpAnyH P md ops Q S (fuel+1) listed a w:=by
 subst hv
 refine anyH_take d hi hd hs hf hr hQ hw hS (fun w' hS'=>?_) hK
 simp [execOp,hop,hm,hy,(h w' hS').lookOk K ht (hz w') hx hkey,Result.andThen]
theorem anyH_callE {R:Value→World→Prop} {i:Nat} {oi:Oper} {fuel:Nat} {listed:Array Bool} {a:Act} {w:World} (d:Option Tmp) {f:FuncId} {args:Array Value} (hi:ops[i]?=some oi) (hd:oi.dst=d)
  (hr:Region.ready md ops listed=[i]) (hw:Region.wanted oi (yielded ops a.tmps)=true) (he:(execOp a.eval oi).run P w=.ok (.enter f args) w)
  (hc:Calls P f args w (fun e w'=>∃v,e=.returned v∧S w'∧R v w'))
  (h:∀v w',S w'→R v w'→wpAnyH P md ops Q S fuel (listed.setIfInBounds i true) (a.put d v) w'):wpAnyH P md ops Q S (fuel+1) listed a w:=by
 subst hd
 refine wpAnyH_ready hr (by simp) (AllReadyH.cons hi (fun K hK=>?_) AllReadyH.nil)
 rw [if_pos hw]
 unfold Oper.wp
 rw [he]
 simp only [Oper.upon]
 refine hc.mono ?_
 rintro e w' ⟨v,rfl,hS',hR'⟩
 exact hK.out _ _ hS' (fun hh=>h v w' hh hR')
end
theorem Box.c {w:World} {b:Nat} {t:TypeId} {cs:List Value} (h:Box w b t cs) (i:Nat) {v:Value} (hv:cs[i]?=some v):w.cell? ⟨b,i,none⟩=some v:=h.cell hv
section
variable {P:Program} {ops:Array Oper} {Q:Exit→Act→World→Prop} {md:Region.Mode} {S:World→Prop}
theorem qE {R:Value→World→Prop} (i k:Nat) {oi:Oper} {fuel:Nat} {listed l':Array Bool} {a:Act} {a':Value→Act} {w:World} {f:FuncId} {args:Array Value}
  (hc:Calls P f args w (fun e w'=>∃v,e=.returned v∧S w'∧R v w')) (h:∀v w',S w'→R v w'→wpAnyH P md ops Q S fuel l' (a' v) w') (hi:ops[i]?=some oi:=by rfl) (hd:oi.dst=some k:=by rfl)
  (hr:Region.ready md ops listed=[i]:=by kernel_rfl) (hw:Region.wanted oi (yielded ops a.tmps)=true:=by rfl) (he:(execOp a.eval oi).run P w=.ok (.enter f args) w:=by go_simp)
  (hl:listed.setIfInBounds i true=l':=by (try simp only [List.setIfInBounds_toArray,List.set_cons_zero,List.set_cons_succ]);first | done | rfl)
  (ha:∀v,a.put (some k) v=a' v:=by intro v;(try simp only [Act.put,List.setIfInBounds_toArray,List.set_cons_zero,List.set_cons_succ]);first | done | rfl):wpAnyH P md ops Q S (fuel+1) listed a w:=by
 subst hl
 refine anyH_callE (some k) hi hd hr hw he hc (fun v w' h1 h2=>?_)
 rw [ha]
 exact h v w' h1 h2
theorem qK {v:Value} (i k:Nat) {oi:Oper} {fuel:Nat} {listed l':Array Bool} {a a':Act} {w:World} {f:FuncId} {args:Array Value}
  (hc:Calls P f args w (fun e w'=>e=.returned v∧S w')) (h:∀w',S w'→wpAnyH P md ops Q S fuel l' a' w') (hi:ops[i]?=some oi:=by rfl) (hd:oi.dst=some k:=by rfl)
  (hr:Region.ready md ops listed=[i]:=by kernel_rfl) (hw:Region.wanted oi (yielded ops a.tmps)=true:=by rfl) (he:(execOp a.eval oi).run P w=.ok (.enter f args) w:=by go_simp)
  (hl:listed.setIfInBounds i true=l':=by (try simp only [List.setIfInBounds_toArray,List.set_cons_zero,List.set_cons_succ]);first | done | rfl)
  (ha:a.put (some k) v=a':=by (try simp only [Act.put,List.setIfInBounds_toArray,List.set_cons_zero,List.set_cons_succ]);first | done | rfl):wpAnyH P md ops Q S (fuel+1) listed a w:=by
 subst hl;subst ha
 exact anyH_call (some k) hi hd hr hw he hc h
end
end Go.Proofs.YtkhmjidaeliccaaGreatDoor
namespace Go.Proofs.YtkhmjidaeliccaaGreatDoor
open Go.RowKit Go.Maps Go.WideMaps Tl Pa
def LaidG (w:World):Prop:=∀i:Nat,i < 16→w.cell? ⟨0,i,none⟩=some (.int .u8 (hd i))
theorem LaidG.below {w w':World} (h:LaidG w) (hb:Below w.heap.size w w'):LaidG w':=fun i hi=>(hb.cell (World.block_lt_of_cell? w _ (h i hi))).trans (h i hi)
def RetStr (s:ByteArray) (w:World) (e:Ending) (w':World):Prop:=e=.returned (.string s)∧Below w.heap.size w w'
def bufC (m i:Nat):List Value:=(bufI m i).map (Value.int .u8)
theorem hex_any (c:Int) (w:World) (hc:0≤c∧c≤1114111) (hG:LaidG w):Calls Tryz.prog 136 #[.int .i64 c] w (RetStr (strOfNums (hexI c)) w):=by
 obtain ⟨m,rfl⟩:∃m:Nat,c=m:=⟨c.toNat,by omega⟩
 have hm:m≤1114111:=by omega
 have hv:inR 0 1114111 (m:Int)=true:=by unfold inR;simp;omega
 have VA:=Lib.hid (fun W=>cpValid_any (m:Int) W)
 rw [hv] at VA
 have XB:Box (w.alloc (.cells #[.int .u8 0,.int .u8 0,.int .u8 0,.int .u8 0,.int .u8 0,.int .u8 0] 219)) w.heap.size 219 (bufC m 0):=Box.new w _ _ rfl
 have BB:Below w.heap.size w (w.alloc (.cells #[.int .u8 0,.int .u8 0,.int .u8 0,.int .u8 0,.int .u8 0,.int .u8 0] 219)):=(Below.refl _ _).alloc (Nat.le_refl _) _
 have WE:=Lib.hid (show ∃V,(w.alloc (.cells #[.int .u8 0,.int .u8 0,.int .u8 0,.int .u8 0,.int .u8 0,.int .u8 0] 219))=V from ⟨_,rfl⟩)
 have HG:=Lib.hid (fun W (hb:Below w.heap.size w W)=>hG.below hb)
 clear hG hv
 have CV:=Lib.hid (fun (W:World) b off len cap (xs:List Int) hlen hcell=>run_convert_bytes_arg W 123 5 Tryz.underlying123 Tryz.underlying5 b off len cap xs hlen hcell 9 Tryz.underlying9)
 have HFIN:=Lib.hid (show ∀(W:World) (a:Nat),a+nH m=6→Box W w.heap.size 219 (bufC m (nH m))→(convert 123 9 (.slice (some ⟨w.heap.size,a,none⟩) (6 - a) (6 - a))).run Tryz.prog W=.ok (.string (strOfNums (hexI (m:Int)))) W from fun W a ha hX=>by
  have hl:(hexI (m:Int)).length=6 - a:=by rw [hexI_buf hm,List.length_drop,bufI_len];omega
  refine CV.out W w.heap.size a (6 - a) (6 - a) (hexI (m:Int)) hl (fun k hk=>?_)
  have hk6:a+k < 6:=by omega
  refine hX.cell ?_
  unfold bufC
  rw [List.getElem?_map,hexI_buf hm,List.getD_eq_getElem?_getD,List.getElem?_drop,show 6 - nH m+k=a+k by omega,List.getElem?_eq_getElem (by rw [bufI_len];exact hk6)]
  rfl)
 unfold RetStr
 go_enter Tryz.func136,Tryz.ntmps136
 go_wp2_with fail
 with_reducible refine (VA.out _).mono ?_
 rintro e W1 ⟨rfl,rfl⟩
 clear VA
 go_upto_region 4 with (fail)
 obtain ⟨V,hV⟩:=WE.out
 rw [hV] at XB BB ⊢
 clear hV WE
 have HXB:=Lib.hid XB
 have HBB:=Lib.hid BB
 clear XB BB
 go_wp2_with fail
 go_loopw [0,4,9] (fun u0 u4 u9 wr=>∃i a q:Nat,a+i=6∧i≤nH m∧q=m / 16 ^ i∧u0=.int .i64 q∧u4=.int .i64 a∧u9=.int .i64 i∧Box wr w.heap.size 219 (bufC m i)∧Below w.heap.size w wr) (fun _ _ u _=>6 - (intOf u).toNat)
 case atStart=>exact ⟨0,6,m,rfl,Nat.zero_le _,by simp,rfl,rfl,rfl,HXB.out,HBB.out⟩
 case round=>
  obtain ⟨i,a,q,hai,hn,hq,rfl,rfl,rfl,hX,hB⟩:=hrel
  have HX:=Lib.hid hX
  have HB:=Lib.hid hB
  clear hX hB HXB HBB
  by_cases h6:i < 6
  ·have d1:decide ((i:Int) < 6)=true:=by simp;omega
   by_cases h4:4≤i
   ·have d2:decide ((4:Int)≤(i:Int))=true:=by simp;omega
    by_cases hq0:q=0
    ·have d3:((q:Int)==0)=true:=by simp;omega
     obtain rfl:=nH_stop hm hn h4 (by rw [←hq];exact hq0)
     have hfin:=HFIN.out wr a (by omega) HX.out
     have hle:a≤6:=by omega
     have ha8:(a:Int)≤6:=by omega
     clear hq
     go_wp2_with fail
     go_ret
     exact ⟨rfl,HB.out⟩
    ·have d3:((q:Int)==0)=false:=by simp;omega
     have hstop:¬(4≤i∧m / 16 ^ i=0):=fun h=>hq0 (by rw [hq];exact h.2)
     obtain ⟨a',rfl⟩:∃a',a=a'+1:=⟨a - 1,by omega⟩
     have hsub:((a'+1:Nat):Int) - 1=(a':Int):=by omega
     have hqle:q≤1114111:=by rw [hq];exact Nat.le_trans (Nat.div_le_self _ _) hm
     have hn':=nH_go h6 hn hstop
     have hd1:(0:Int)≤((q % 16:Nat):Int):=by omega
     have hd2:((q % 16:Nat):Int) < 16:=by omega
     have hlt:q % 16 < 16:=Nat.mod_lt _ (by decide)
     have ha6:a' < 6:=by omega
     have ha7:(a':Int) < 6:=by omega
     have hrem:Int.tmod (q:Int) 16=((q % 16:Nat):Int):=by rw [Int.tmod_eq_emod_of_nonneg (by omega)];omega
     have hquo:Int.tdiv (q:Int) 16=((q / 16:Nat):Int):=by rw [Int.tdiv_eq_ediv_of_nonneg (by omega)];omega
     have g0:=HG.out wr HB.out (q % 16) hlt
     have hlen:(bufC m i).length=6:=by unfold bufC;rw [List.length_map,bufI_len]
     have c0:=HX.out.cell (i:=a') (List.getElem?_eq_getElem (by rw [hlen];exact ha6))
     have f0:=HX.out.free a'
     have hset:(bufC m i).set a' (.int .u8 (hd ((q % 16:Nat):Int)))=bufC m (i+1):=by
      unfold bufC
      rw [←bufI_set m i h6,show 5 - i=a' by omega,List.map_set,hq]
      rfl
     have HX2:=Lib.hid (show Box (wr.setCell ⟨w.heap.size,a',none⟩ (.int .u8 (hd ((q % 16:Nat):Int)))) w.heap.size 219 (bufC m (i+1)) from hset ▸ HX.out.set a' _)
     have HB2:=Lib.hid (HB.out.setCell (p:=⟨w.heap.size,a',none⟩) (Nat.le_refl _) (.int .u8 (hd ((q % 16:Nat):Int))))
     have HQ2:=Lib.hid (show q / 16=m / 16 ^ (i+1) from by rw [hq,Nat.div_div_eq_div_mul,Nat.pow_succ])
     have HAI:=Lib.hid hai
     clear hset hq hai
     go_wp2_with fail
     go_roundw
     case rel=>exact ⟨i+1,a',q / 16,by have:=HAI.out;omega,hn',HQ2.out,by go_num,by go_num,by go_num,HX2.out,HB2.out⟩
     case measure=>(try simp [intOf]) <;> (try omega)
   ·have d2:decide ((4:Int)≤(i:Int))=false:=by simp;omega
    have hstop:¬(4≤i∧m / 16 ^ i=0):=fun h=>h4 h.1
    obtain ⟨a',rfl⟩:∃a',a=a'+1:=⟨a - 1,by omega⟩
    have hsub:((a'+1:Nat):Int) - 1=(a':Int):=by omega
    have hqle:q≤1114111:=by rw [hq];exact Nat.le_trans (Nat.div_le_self _ _) hm
    have hn':=nH_go h6 hn hstop
    have hd1:(0:Int)≤((q % 16:Nat):Int):=by omega
    have hd2:((q % 16:Nat):Int) < 16:=by omega
    have hlt:q % 16 < 16:=Nat.mod_lt _ (by decide)
    have ha6:a' < 6:=by omega
    have ha7:(a':Int) < 6:=by omega
    have hrem:Int.tmod (q:Int) 16=((q % 16:Nat):Int):=by rw [Int.tmod_eq_emod_of_nonneg (by omega)];omega
    have hquo:Int.tdiv (q:Int) 16=((q / 16:Nat):Int):=by rw [Int.tdiv_eq_ediv_of_nonneg (by omega)];omega
    have g0:=HG.out wr HB.out (q % 16) hlt
    have hlen:(bufC m i).length=6:=by unfold bufC;rw [List.length_map,bufI_len]
    have c0:=HX.out.cell (i:=a') (List.getElem?_eq_getElem (by rw [hlen];exact ha6))
    have f0:=HX.out.free a'
    have hset:(bufC m i).set a' (.int .u8 (hd ((q % 16:Nat):Int)))=bufC m (i+1):=by
     unfold bufC
     rw [←bufI_set m i h6,show 5 - i=a' by omega,List.map_set,hq]
     rfl
    have HX2:=Lib.hid (show Box (wr.setCell ⟨w.heap.size,a',none⟩ (.int .u8 (hd ((q % 16:Nat):Int)))) w.heap.size 219 (bufC m (i+1)) from hset ▸ HX.out.set a' _)
    have HB2:=Lib.hid (HB.out.setCell (p:=⟨w.heap.size,a',none⟩) (Nat.le_refl _) (.int .u8 (hd ((q % 16:Nat):Int))))
    have HQ2:=Lib.hid (show q / 16=m / 16 ^ (i+1) from by rw [hq,Nat.div_div_eq_div_mul,Nat.pow_succ])
    have HAI:=Lib.hid hai
    clear hset hq hai
    go_wp2_with fail
    go_roundw
    case rel=>exact ⟨i+1,a',q / 16,by have:=HAI.out;omega,hn',HQ2.out,by go_num,by go_num,by go_num,HX2.out,HB2.out⟩
    case measure=>(try simp [intOf]) <;> (try omega)
  ·have d1:decide ((i:Int) < 6)=false:=by simp;omega
   have hb:=nH_bd m
   obtain rfl:i=nH m:=by omega
   have hfin:=HFIN.out wr a (by omega) HX.out
   have hle:a≤6:=by omega
   have ha8:(a:Int)≤6:=by omega
   clear hq
   go_wp2_with fail
   go_ret
   exact ⟨rfl,HB.out⟩
end Go.Proofs.YtkhmjidaeliccaaGreatDoor
