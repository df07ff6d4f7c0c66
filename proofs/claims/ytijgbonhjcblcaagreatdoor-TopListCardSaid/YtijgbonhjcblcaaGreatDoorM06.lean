/- Texts that are merged into one file: Once, MapI, MeasA, MeasB, MeasC, MeasP, Meas. -/
import Derived.Test.YtijgbonhjcblcaaGreatDoorM02
import Derived.Test.YtijgbonhjcblcaaGreatDoorM03
import Derived.Test.YtijgbonhjcblcaaGreatDoorM04
import Derived.Test.YtijgbonhjcblcaaGreatDoorM05
import Derived.Test.YtijgbonhjcblcaaGreatDoorProg
set_option maxRecDepth 100000
set_option maxHeartbeats 51200000
namespace Go.Proofs.YtijgbonhjcblcaaGreatDoor
open Go.RowKit
def StF (ms:List Mp):Prop:=∀i j,(hi:i < ms.length)→(hj:j < ms.length)→i < j→ms[i].frm < ms[j].frm
theorem onceF_any (f:Int) (va:Value) (t:ByteArray) (c:Int) (w:World):Calls Tryz.prog 148 #[.agg #[.int .i64 f,va,.string t],.int .i64 c] w (RetInt (cmpI f c) w):=by
 have C:=Lib.hid (fun W=>cmpCompare_any f c W)
 generalize cmpI f c=r at *
 go_enter Tryz.func148,Tryz.ntmps148
 go_wp2_with fail
 with_reducible refine (C.out _).mono ?_
 rintro e w1 ⟨rfl,rfl⟩
 go_wp2_with fail
 go_ret
 exact ⟨rfl,(Below.refl _ _).alloc (Nat.le_refl _) _⟩
structure SrchM (ms:List Mp) (c:Int) (i:Nat) (f:Bool):Prop where
 le:i≤ms.length
 lo:∀t,(ht:t < ms.length)→t < i→ms[t].frm < c
 hi:∀t,(ht:t < ms.length)→i≤t→c≤ms[t].frm
 fd:f=decide (∃h:i < ms.length,ms[i].frm=c)
def RetSrchM (ms:List Mp) (c:Int) (w:World) (e:Ending) (w':World):Prop:=∃(i:Nat) (f:Bool),e=.returned (.tuple #[.int .i64 i,.bool f])∧SrchM ms c i f∧Below w.heap.size w w'
theorem bsearchM_any (A:Option Addr) (n k:Nat) (ms:List Mp) (c:Int) (w:World) (hA:Mps w A ms) (hn:ms.length=n) (hbig:n≤1048576) (hasc:StF ms) :
  Calls Tryz.prog 147 #[.slice A n k,.int .i64 c,.func (.func 148) #[] #[]] w (RetSrchM ms c w):=by
 subst hn
 have HS:=Lib.hid hasc;clear hasc
 go_enter Tryz.func147,Tryz.ntmps147
 go_wp2
 go_loopw [9,10] (fun u v wr=>∃i j:Nat,i≤j∧j≤ms.length∧u=.int .i64 i∧v=.int .i64 j∧(∀t,(ht:t < ms.length)→t < i→ms[t].frm < c)∧(∀t,(ht:t < ms.length)→j≤t→c≤ms[t].frm)∧Below w.heap.size w wr)
  (fun u v _=>(intOf v).toNat - (intOf u).toNat)
 case atStart=>exact ⟨0,ms.length,Nat.zero_le _,Nat.le_refl _,rfl,rfl,fun t _ h=>by omega,fun t h1 h2=>by omega,Below.refl _ _⟩
 case round=>
  obtain ⟨i,j,hij,hj,rfl,rfl,hlo,hhi,hbel⟩:=hrel
  have HLO:=Lib.hid hlo;have HHI:=Lib.hid hhi;clear hlo hhi
  by_cases hlt:i < j
  ·obtain ⟨h,hh,h1,h2,h3⟩:∃h:Nat,((i:Int)+(j:Int)) / 2=(h:Int)∧i≤h∧h < j∧h < ms.length:=⟨(i+j) / 2,by omega,by omega,by omega,by omega⟩
   obtain ⟨b,o,rfl,_,hcell⟩:=(hA.below hbel).at h3
   obtain ⟨D,d,c1,c2,c3,_,_⟩:=hcell h h3
   clear hcell
   have HO:=Lib.hid (fun t (ht:t < ms.length) (hth:t < h)=>HS.out t h ht h3 hth)
   have HO2:=Lib.hid (fun t (ht:t < ms.length) (hth:h < t)=>HS.out h t h3 ht hth)
   generalize hf:ms[h].frm=f at *
   generalize ms[h].to.length=tl at *
   generalize ms[h].tag=tg at *
   have E2:=Lib.hid hf
   have C:=Lib.hid (fun W=>onceF_any f (.slice D tl d) tg c W)
   clear hf
   by_cases hk:f < c
   ·have hsc:cmpI f c=-1:=by unfold cmpI;rw [if_pos hk]
    rw [hsc] at C;clear hsc
    go_wp2_with (go_at_call 148;refine (C.out _).mono ?_;rintro e w1 ⟨rfl,hb1⟩)
    go_roundw
    case rel=>
     refine ⟨h+1,j,by omega,hj,by go_num,rfl,fun t ht g=>?_,HHI.out,hbel.trans (hb1.mono hbel.size)⟩
     by_cases e:t=h
     ·subst e;rw [E2.out];exact hk
     ·have a1:=HO.out t ht (by omega)
      omega
    case measure=>simp [intOf];omega
   ·have hsc:0≤cmpI f c:=by unfold cmpI;rw [if_neg hk];split <;> omega
    generalize cmpI f c=sc at *
    go_wp2_with (go_at_call 148;refine (C.out _).mono ?_;rintro e w1 ⟨rfl,hb1⟩)
    go_roundw
    case rel=>
     refine ⟨i,h,h1,by omega,rfl,rfl,HLO.out,fun t ht g=>?_,hbel.trans (hb1.mono hbel.size)⟩
     by_cases e:t=h
     ·subst e;rw [E2.out];omega
     ·have a1:=HO2.out t ht (by omega)
      omega
    case measure=>simp [intOf];omega
  ·obtain rfl:i=j:=by omega
   by_cases hend:i < ms.length
   ·obtain ⟨b,o,rfl,_,hcell⟩:=(hA.below hbel).at hend
    obtain ⟨D,d,c1,c2,c3,_,_⟩:=hcell i hend
    clear hcell
    have hci:=HHI.out i hend (Nat.le_refl _)
    have HF:=Lib.hid (show decide (∃h:i < ms.length,ms[i].frm=c)=(cmpI ms[i].frm c==0) by
     rw [Bool.eq_iff_iff];simp only [decide_eq_true_eq,beq_iff_eq];unfold cmpI;rw [if_neg (by omega)];split
     ·constructor
      ·rintro ⟨_,h⟩;omega
      ·intro h;omega
     ·exact ⟨fun _=>rfl,fun _=>⟨hend,by omega⟩⟩)
    clear hci
    generalize ms[i].frm=f at *
    generalize ms[i].to.length=tl at *
    generalize ms[i].tag=tg at *
    have C:=Lib.hid (fun W=>onceF_any f (.slice D tl d) tg c W)
    generalize cmpI f c=sc at *
    go_wp2_with (go_at_call 148;refine (C.out _).mono ?_;rintro e w1 ⟨rfl,hb1⟩)
    go_ret2
    refine ⟨i,_,rfl,⟨hj,HLO.out,HHI.out,?_⟩,hbel.trans (hb1.mono hbel.size)⟩
    exact HF.out.symm
   ·go_wp2_with fail
    go_ret2
    refine ⟨i,_,rfl,⟨hj,HLO.out,HHI.out,?_⟩,hbel⟩
    simp [hend]
theorem fndM_some {ms:List Mp} {compat:Bool} {c:Int} {i:Nat} (hs:StF ms) (hi:i < ms.length) (h:ms[i].frm=c):fndM ms compat c=if compat=true∨ms[i].tag.size=0 then some i else none:=by
 by_cases e:compat=true∨ms[i].tag.size=0
 ·rw [if_pos e]
  unfold fndM
  rw [List.findIdx?_eq_some_iff_getElem]
  refine ⟨hi,by simpa [h] using e,fun j hj=>?_⟩
  have:=hs j i (by omega) hi hj
  simp
  intro he
  omega
 ·rw [if_neg e]
  unfold fndM
  rw [List.findIdx?_eq_none_iff]
  intro x hx
  obtain ⟨j,hj,rfl⟩:=List.getElem_of_mem hx
  by_cases g:j=i
  ·subst g;simpa [h] using e
  ·have:¬ms[j].frm=c:=fun he=>by
    rcases Nat.lt_or_gt_of_ne g with g | g
    ·have:=hs j i hj hi g;omega
    ·have:=hs i j hi hj g;omega
   simp [this]
theorem fndM_none {ms:List Mp} {compat:Bool} {c:Int} (h:∀i,(hi:i < ms.length)→¬ms[i].frm=c):fndM ms compat c=none:=by
 unfold fndM
 rw [List.findIdx?_eq_none_iff]
 intro x hx
 obtain ⟨j,hj,rfl⟩:=List.getElem_of_mem hx
 simp [h j hj]
theorem SrchM.no {ms:List Mp} {c:Int} {i:Nat} {compat:Bool} (hs:StF ms) (h:SrchM ms c i false):fndM ms compat c=none:=by
 refine fndM_none fun t ht e=>?_
 have hf:=h.fd
 have hn:¬∃g:i < ms.length,ms[i].frm=c:=by simpa using hf.symm
 by_cases g:t < i
 ·have:=h.lo t ht g;omega
 ·by_cases g2:t=i
  ·subst g2;exact hn ⟨ht,e⟩
  ·have h1:=h.hi i (by omega) (Nat.le_refl _)
   have h2:=hs i t (by omega) ht (by omega)
   omega
theorem once_any (A0:Option Addr) (n0 k0:Nat) (A1:Option Addr) (n1 k1:Nat) (A2:Option Addr) (n2 k2:Nat) (ms:List Mp) (c:Int) (compat:Bool) (w:World) (hA:Mps w A1 ms) (hn:ms.length=n1) (hbig:n1≤1048576) (hasc:StF ms) :
  Calls Tryz.prog 118 #[.agg #[.slice A0 n0 k0,.slice A1 n1 k1,.slice A2 n2 k2],.int .i64 c,.bool compat] w (RetGet (onM ms compat c) w):=by
 subst hn
 have K:=Lib.hid (fun W=>Kind_any c W)
 have D:=Lib.hid (fun W=>Decompose_any c W)
 have S:=Lib.hid (fun W (hb:Below w.heap.size w W)=>bsearchM_any A1 ms.length k1 ms c W (hA.below hb) rfl hbig hasc)
 have HS:=Lib.hid hasc
 clear hasc
 have R4:=Lib.hid (fun (h:4≤Hg.kind c)=>show onM ms compat c=some (Hg.decomp c) from if_pos h)
 have R0:=Lib.hid (fun (h:¬4≤Hg.kind c)=>show onM ms compat c=(fndM ms compat c).map (toM ms) from if_neg h)
 generalize onM ms compat c=R at *
 generalize Hg.kind c=kc at *
 have B0:Below w.heap.size w (w.alloc (.cells #[.slice A0 n0 k0,.slice A1 ms.length k1,.slice A2 n2 k2] 28)):=(Below.refl _ _).alloc (Nat.le_refl _) _
 have s0:(w.alloc (.cells #[.slice A0 n0 k0,.slice A1 ms.length k1,.slice A2 n2 k2] 28)).heap.size=w.heap.size+1:=by simp
 have q0:(w.alloc (.cells #[.slice A0 n0 k0,.slice A1 ms.length k1,.slice A2 n2 k2] 28)).cell? ⟨w.heap.size,1,none⟩=some (.slice A1 ms.length k1):=by simp
 have W0E:∃W0,(w.alloc (.cells #[.slice A0 n0 k0,.slice A1 ms.length k1,.slice A2 n2 k2] 28))=W0:=⟨_,rfl⟩
 go_enter Tryz.func118,Tryz.ntmps118
 go_wp2_with fail
 obtain ⟨W0,hW0⟩:=W0E
 rw [hW0] at B0 s0 q0 ⊢
 clear hW0
 with_reducible refine (K.out _).mono ?_
 rintro e w1 ⟨rfl,rfl⟩
 by_cases h4:4≤kc
 ·obtain rfl:=R4.out h4
  clear R4 R0
  generalize Hg.decomp c=zs at *
  go_wp2_with fail
  with_reducible refine (D.out _).mono ?_
  rintro e w1 ⟨E,d,rfl,hd,hE,hb⟩
  go_wp2_with fail
  go_ret2
  exact ⟨E,d,rfl,hd,hE,B0.trans (hb.mono B0.size)⟩
 ·have HR:=Lib.hid (R0.out (by omega))
  clear R4 R0
  go_wp2_with fail
  with_reducible refine (S.out _ B0).mono ?_
  rintro e W1 ⟨i,f,rfl,hs,hb1⟩
  have hb:=B0.trans (hb1.mono B0.size)
  have q1:W1.cell? ⟨w.heap.size,1,none⟩=some (.slice A1 ms.length k1):=(hb1.cell (show w.heap.size < W0.heap.size by omega)).trans q0
  cases f with
  | false=>
   obtain rfl:R=none:=by rw [HR.out,hs.no HS.out];rfl
   clear hs
   go_wp2_with fail
   go_ret2
   exact ⟨.none,0,rfl,Nat.le_refl _,Sl.nil _ _,hb⟩
  | true=>
   obtain ⟨hi,hfr⟩:∃h:i < ms.length,ms[i].frm=c:=by simpa using hs.fd.symm
   have hfd:=fndM_some (compat:=compat) HS.out hi hfr
   have hto:toM ms i=ms[i].to:=by simp [toM,List.getD,hi]
   obtain ⟨b,o,rfl,_,hcell⟩:=(hA.below hb).at hi
   obtain ⟨E,d,c1,c2,c3,c4,c5⟩:=hcell i hi
   clear hcell hs
   have HR2:=Lib.hid (HR.out.trans (by rw [hfd]))
   clear hfd HR
   generalize hto2:ms[i].to=to at *
   generalize ms[i].tag=tg at *
   clear hto2
   by_cases ht:tg.size=0
   ·have g0:tg.toList=[]:=str_nil ht
    obtain rfl:R=some to:=by rw [HR2.out,if_pos (.inr ht),Option.map_some,hto]
    clear hto HR2
    go_wp2_with fail
    go_ret2
    exact ⟨E,d,rfl,c4,c5,hb⟩
   ·have g0:¬tg.toList=[]:=str_cons ht
    have g1:tg.toList.isEmpty=false:=by simpa using g0
    cases compat with
    | true=>
     obtain rfl:R=some to:=by rw [HR2.out,if_pos (.inl rfl),Option.map_some,hto]
     clear hto HR2
     go_wp2_with fail
     go_ret2
     exact ⟨E,d,rfl,c4,c5,hb⟩
    | false=>
     obtain rfl:R=none:=by rw [HR2.out,if_neg (by simp [ht]),Option.map_none]
     clear hto HR2
     go_wp2_with fail
     go_ret2
     exact ⟨.none,0,rfl,Nat.le_refl _,Sl.nil _ _,hb⟩
end Go.Proofs.YtijgbonhjcblcaaGreatDoor
namespace Go.Proofs.YtijgbonhjcblcaaGreatDoor
open Go.RowKit Go.Maps Go.WideMaps
def iok (z:Int):Prop:=(Lit.int .i64 z).wf=true
def ikey (z:Int):Lit:=.int .i64 z
theorem ikey_inj {y z:Int} (h:ikey y=ikey z):y=z:=by injection h
theorem law_int:Keyed Tryz.prog 3:=int_keyed Tryz.underlying3
theorem key_int {z:Int} (h:iok z):keyOf Tryz.prog 3 (.int .i64 z)=some (ikey z):=keyOf_int_mk Tryz.underlying3 h
abbrev MapI (w:World) (b n:Nat) (f:Int→Option Value):Prop:=MapIs Tryz.prog 3 ikey iok w b n f
end Go.Proofs.YtijgbonhjcblcaaGreatDoor
namespace Go.Proofs.YtijgbonhjcblcaaGreatDoor
open Go.RowKit Go.Maps Go.WideMaps
def KeepD (s:Nat) (w w':World):Prop:=w.heap.size≤w'.heap.size∧∀b,b < w.heap.size→b≠s+1→b≠s+2→b≠s+3→w'.heap[b]?=w.heap[b]?
section
variable {s:Nat} {a b c:World}
theorem KeepD.refl (s:Nat) (a:World):KeepD s a a:=⟨Nat.le_refl _,fun _ _ _ _ _=>rfl⟩
theorem KeepD.trans (h:KeepD s a b) (k:KeepD s b c):KeepD s a c:=⟨Nat.le_trans h.1 k.1,fun q hq h1 h2 h3=>(k.2 q (Nat.lt_of_lt_of_le hq h.1) h1 h2 h3).trans (h.2 q hq h1 h2 h3)⟩
theorem KeepD.of_below (h:Below a.heap.size a b):KeepD s a b:=⟨h.size,fun q hq _ _ _=>h.block q hq⟩
theorem KeepD.of_grown {u:Nat} (h:a.grownBy b (some u)) (hu:u=s+1∨u=s+2∨u=s+3):KeepD s a b:=⟨h.size,fun q hq h1 h2 h3=>h.block q hq (fun e=>by injection e with e;omega)⟩
end
structure MS (A0:Option Addr) (n0 k0:Nat) (A1:Option Addr) (n1 k1:Nat) (A2:Option Addr) (n2 k2:Nat) (s:Nat) (w:World) (n:Nat) (mk:Int→Option Int) (cyc lng:Bool):Prop where
 bN:Box w s 28 [.slice A0 n0 k0,.slice A1 n1 k1,.slice A2 n2 k2]
 bC:Box w (s+1) 4 [.bool cyc]
 bL:Box w (s+2) 4 [.bool lng]
 mp:MapI w (s+3) n (fun c=>(mk c).map (fun k=>.int .i64 k))
 bM:Box w (s+4) 182 [.map (some (s+3))]
 bS:Box w (s+5) 81 [.func (.func 137) #[] #[.pointer (some ⟨s,0,none⟩),.pointer (some ⟨s+4,0,none⟩),.pointer (some ⟨s+1,0,none⟩),.pointer (some ⟨s+5,0,none⟩),.pointer (some ⟨s+2,0,none⟩)]]
section
variable {A0:Option Addr} {n0 k0:Nat} {A1:Option Addr} {n1 k1:Nat} {A2:Option Addr} {n2 k2:Nat} {s:Nat} {w w':World} {n:Nat} {mk:Int→Option Int} {cyc lng:Bool}
theorem MS.below (h:MS A0 n0 k0 A1 n1 k1 A2 n2 k2 s w n mk cyc lng) (hb:Below w.heap.size w w'):MS A0 n0 k0 A1 n1 k1 A2 n2 k2 s w' n mk cyc lng:=
 ⟨h.bN.below hb h.bN.lt,h.bC.below hb h.bC.lt,h.bL.below hb h.bL.lt,h.mp.below hb,h.bM.below hb h.bM.lt,h.bS.below hb h.bS.lt⟩
theorem MS.setC (h:MS A0 n0 k0 A1 n1 k1 A2 n2 k2 s w n mk cyc lng) (x:Bool):MS A0 n0 k0 A1 n1 k1 A2 n2 k2 s (w.setCell ⟨s+1,0,none⟩ (.bool x)) n mk x lng:=by
 have hg:=grown_set w ⟨s+1,0,none⟩ (.bool x)
 exact ⟨h.bN.grown hg (by simp),h.bC.set 0 _,h.bL.grown hg (by simp),h.mp.kept hg (by simp),h.bM.grown hg (by simp),h.bS.grown hg (by simp)⟩
theorem MS.setL (h:MS A0 n0 k0 A1 n1 k1 A2 n2 k2 s w n mk cyc lng) (x:Bool):MS A0 n0 k0 A1 n1 k1 A2 n2 k2 s (w.setCell ⟨s+2,0,none⟩ (.bool x)) n mk cyc x:=by
 have hg:=grown_set w ⟨s+2,0,none⟩ (.bool x)
 exact ⟨h.bN.grown hg (by simp),h.bC.grown hg (by simp),h.bL.set 0 _,h.mp.kept hg (by simp),h.bM.grown hg (by simp),h.bS.grown hg (by simp)⟩
theorem MS.put (h:MS A0 n0 k0 A1 n1 k1 A2 n2 k2 s w n mk cyc lng) {m:Nat} {c k:Int} (hm:MapI w' (s+3) m (fun y=>if y=c then some (.int .i64 k) else (mk y).map (fun k=>.int .i64 k))) (hg:w.grownBy w' (some (s+3))) :
  MS A0 n0 k0 A1 n1 k1 A2 n2 k2 s w' m (putM mk c k) cyc lng:=by
 refine ⟨h.bN.grown hg (by simp),h.bC.grown hg (by simp),h.bL.grown hg (by simp),hm.ext fun x _=>?_,h.bM.grown hg (by simp),h.bS.grown hg (by simp)⟩
 unfold putM
 split <;> rfl
theorem MS.ints (h:MS A0 n0 k0 A1 n1 k1 A2 n2 k2 s w n mk cyc lng) (hk:KeepD s w w') {E:Option Addr} {zs:List Int} (hs:Ints w E zs):Ints w' E zs:=fun hne=>by
 obtain ⟨q,o,rfl,hc⟩:=hs hne
 refine ⟨q,o,rfl,fun j u hu=>?_⟩
 have h1:=hc j u hu
 have hi:∃z,u=.int .i64 z:=by
  rw [List.getElem?_map] at hu
  cases hz:zs[j]? with
  | none=>rw [hz] at hu;cases hu
  | some z=>rw [hz] at hu;injection hu with hu;exact ⟨z,hu.symm⟩
 obtain ⟨z,rfl⟩:=hi
 have flag:∀(B:Nat) (x:Bool),Box w B 4 [.bool x]→q≠B:=fun B x hB e=>by
  subst e
  unfold Box at hB
  generalize o+j=m at h1
  rcases m with _ | m
  ·simp [World.cell?,hB] at h1
  ·simp [World.cell?,hB] at h1
 have hq3:q≠s+3:=fun e=>by rw [e,h.mp.nocell] at h1;cases h1
 exact (World.cell?_of_block (hk.2 q (World.block_lt_of_cell? w _ h1) (flag _ _ h.bC) (flag _ _ h.bL) hq3)).trans h1
end
end Go.Proofs.YtijgbonhjcblcaaGreatDoor
namespace Go.Proofs.YtijgbonhjcblcaaGreatDoor
open Go.RowKit Go.Maps Go.WideMaps
def CodesOk (ms:List Mp):Prop:=∀i,(hi:i < ms.length)→(0≤ms[i].frm∧ms[i].frm≤1114111)∧ms[i].to.length≤64∧∀e ∈ ms[i].to,0≤e∧e≤1114111
def hk (c:Int):Nat:=if 4≤Hg.kind c then 1 else 0
def fsM (ms:List Mp):List Int:=ms.map Mp.frm
theorem hk_le (c:Int):hk c≤1:=by unfold hk;split <;> omega
theorem decomp_kids {c:Int} (h:4≤Hg.kind c):(Hg.decomp c).length≤3∧∀e ∈ Hg.decomp c,(0≤e∧e≤1114111)∧hk e=0∧1≤Hg.kind e:=by
 have h5:=(Hg.kind_range c).2
 have k1:∀e:Int,0x1100≤e∧e≤0x1112→(0≤e∧e≤1114111)∧hk e=0∧1≤Hg.kind e:=fun e he=>⟨by omega,by unfold hk;rw [Hg.kind1 he];rfl,by rw [Hg.kind1 he];omega⟩
 have k2:∀e:Int,0x1161≤e∧e≤0x1175→(0≤e∧e≤1114111)∧hk e=0∧1≤Hg.kind e:=fun e he=>⟨by omega,by unfold hk;rw [Hg.kind2 he];rfl,by rw [Hg.kind2 he];omega⟩
 have k3:∀e:Int,0x11A8≤e∧e≤0x11C2→(0≤e∧e≤1114111)∧hk e=0∧1≤Hg.kind e:=fun e he=>⟨by omega,by unfold hk;rw [Hg.kind3 he];rfl,by rw [Hg.kind3 he];omega⟩
 by_cases h4:Hg.kind c=4
 ·obtain ⟨b1,b2,b3⟩:=kind_is4 h4
  rw [decomp_2 h4]
  refine ⟨by simp,fun e he=>?_⟩
  simp only [List.mem_cons,List.not_mem_nil,or_false] at he
  rcases he with rfl | rfl
  ·exact k1 _ (by omega)
  ·exact k2 _ (by omega)
 ·have h4':Hg.kind c=5:=by omega
  obtain ⟨b1,b2,b3⟩:=kind_is5 h4'
  rw [decomp_3 h4']
  refine ⟨by simp,fun e he=>?_⟩
  simp only [List.mem_cons,List.not_mem_nil,or_false] at he
  rcases he with rfl | rfl | rfl
  ·exact k1 _ (by omega)
  ·exact k2 _ (by omega)
  ·exact k3 _ (by omega)
theorem fndM_at {ms:List Mp} {b:Bool} {c:Int} {i:Nat} (h:fndM ms b c=some i):∃hi:i < ms.length,ms[i].frm=c∧(b=true∨ms[i].tag.size=0):=by
 unfold fndM at h
 rw [List.findIdx?_eq_some_iff_getElem] at h
 obtain ⟨hi,h1,_⟩:=h
 exact ⟨hi,by simpa using h1⟩
theorem onM_kids {ms:List Mp} {b:Bool} {c:Int} {to:List Int} (hc:CodesOk ms) (h:onM ms b c=some to) :
  to.length≤64∧(∀e ∈ to,0≤e∧e≤1114111)∧((hk c=1∧to.length≤3∧∀e ∈ to,hk e=0)∨(hk c=0∧c ∈ fsM ms)):=by
 unfold onM at h
 split at h
 ·next h4=>
  injection h with h
  subst h
  obtain ⟨h1,h2⟩:=decomp_kids h4
  exact ⟨by omega,fun e he=>(h2 e he).1,.inl ⟨by unfold hk;rw [if_pos h4],h1,fun e he=>(h2 e he).2.1⟩⟩
 ·next h4=>
  cases hf:fndM ms b c with
  | none=>rw [hf] at h;cases h
  | some i=>
   rw [hf] at h
   injection h with h
   obtain ⟨hi,h1,_⟩:=fndM_at hf
   have ht:toM ms i=ms[i].to:=by simp [toM,List.getD,hi]
   rw [ht] at h
   subst h
   obtain ⟨q1,q2,q3⟩:=hc i hi
   exact ⟨q2,q3,.inr ⟨by unfold hk;rw [if_neg h4],List.mem_map.2 ⟨ms[i],List.getElem_mem hi,h1⟩⟩⟩
theorem iok_code {c:Int} (h:0≤c∧c≤1114111):iok c:=by
 unfold iok Lit.wf
 simp [IntKind.min,IntKind.max,IntKind.signed,IntKind.bits]
 omega
theorem zero_intM (w:World):(zeroValue 3).run Tryz.prog w=.ok (.int .i64 0) w:=by kernel_rfl
structure SzPost (A0:Option Addr) (n0 k0:Nat) (A1:Option Addr) (n1 k1:Nat) (A2:Option Addr) (n2 k2:Nat) (s:Nat) (ms:List Mp) (c:Int) (w:World) (n:Nat) (mk:Int→Option Int) (cyc:Bool) (v:Int) (w':World) (n':Nat) (mk':Int→Option Int) (cyc' lng':Bool):Prop where
 bd:1≤v∧v≤capE
 ext:DExt mk mk'
 inv:DInv (onM ms true) capE mxE mk' cyc' lng'
 mon:cyc=true→cyc'=true
 sz:cyc'=false→Sz (onM ms true) capE c v
 st:MS A0 n0 k0 A1 n1 k1 A2 n2 k2 s w' n' mk' cyc' lng'
 kp:KeepD s w w'
 bel:Below s w w'
 pot:n'+200*unmarked (fsM ms) mk'≤n+200*unmarked (fsM ms) mk+2*hk c
 mkd:∀to,onM ms true c=some to→to≠[]→∃k,mk' c=some k
end Go.Proofs.YtijgbonhjcblcaaGreatDoor
namespace Go.Proofs.YtijgbonhjcblcaaGreatDoor
open Go.RowKit Go.Maps Go.WideMaps
def SzRet (A0:Option Addr) (n0 k0:Nat) (A1:Option Addr) (n1 k1:Nat) (A2:Option Addr) (n2 k2:Nat) (s:Nat) (ms:List Mp) (c:Int) (w:World) (n:Nat) (mk:Int→Option Int) (cyc:Bool) (e:Ending) (w':World):Prop:=
 ∃v n' mk' cyc' lng',e=.returned (.int .i64 v)∧SzPost A0 n0 k0 A1 n1 k1 A2 n2 k2 s ms c w n mk cyc v w' n' mk' cyc' lng'
def SizeOk (A0:Option Addr) (n0 k0:Nat) (A1:Option Addr) (n1 k1:Nat) (A2:Option Addr) (n2 k2:Nat) (s:Nat) (ms:List Mp) (w0:World) (u:Nat):Prop:=
 ∀(c:Int) (w:World) (n:Nat) (mk:Int→Option Int) (cyc lng:Bool),2*unmarked (fsM ms) mk+hk c < u→0≤c∧c≤1114111→DInv (onM ms true) capE mxE mk cyc lng→(∀x,mk x=some (-1)→Path (onM ms true) x c)→
  MS A0 n0 k0 A1 n1 k1 A2 n2 k2 s w n mk cyc lng→Below s w0 w→n+200*unmarked (fsM ms) mk+2*hk c≤1000000000→
  Calls Tryz.prog 137 #[.int .i64 c,.pointer (some ⟨s,0,none⟩),.pointer (some ⟨s+4,0,none⟩),.pointer (some ⟨s+1,0,none⟩),.pointer (some ⟨s+5,0,none⟩),.pointer (some ⟨s+2,0,none⟩)] w
   (SzRet A0 n0 k0 A1 n1 k1 A2 n2 k2 s ms c w n mk cyc)
theorem DExt.finish {mk mk':Int→Option Int} {c v:Int} (hn:mk c=none) (hv:v≠-1) (h:DExt (putM mk c (-1)) mk'):DExt mk (putM mk' c v):=by
 refine ⟨fun x k e=>?_,fun x e=>?_⟩
 ·have hx:¬x=c:=fun e'=>by rw [e',hn] at e;cases e
  rw [putM_other _ _ hx]
  exact h.old x k (by rw [putM_other _ _ hx];exact e)
 ·by_cases hx:x=c
  ·subst hx;rw [putM_same];intro e2;injection e2 with e2;exact hv e2
  ·rw [putM_other _ _ hx];exact h.new x (by rw [putM_other _ _ hx];exact e)
theorem DExt.way {on:Int→Option (List Int)} {mk mk':Int→Option Int} {c e:Int} (h:DExt (putM mk c (-1)) mk') (hp:∀x,mk x=some (-1)→Path on x c) (he:Edge on c e):∀x,mk' x=some (-1)→Path on x e:=by
 intro x hx
 cases hm:putM mk c (-1) x with
 | none=>exact absurd hx (h.new x hm)
 | some v=>
  have h1:=h.old x v hm
  rw [hx] at h1
  injection h1 with h1
  subst h1
  by_cases e':x=c
  ·subst e';exact .one he
  ·rw [putM_other _ _ e'] at hm;exact .more (hp x hm) he
structure SzLoop (A0:Option Addr) (n0 k0:Nat) (A1:Option Addr) (n1 k1:Nat) (A2:Option Addr) (n2 k2:Nat) (s:Nat) (ms:List Mp) (c:Int) (to:List Int) (w:World) (n:Nat) (mk:Int→Option Int) (cyc:Bool) (D i:Nat) (vs:List Int) (w':World) (n':Nat) (mk':Int→Option Int) (cyc' lng':Bool):Prop where
 le:i≤to.length
 ln:vs.length=i
 bd:∀v ∈ vs,1≤v∧v≤capE
 ext:DExt (putM mk c (-1)) mk'
 inv:DInv (onM ms true) capE mxE mk' cyc' lng'
 mon:cyc=true→cyc'=true
 sz:cyc'=false→∀j,(h1:j < to.length)→(h2:j < vs.length)→Sz (onM ms true) capE to[j] vs[j]
 st:MS A0 n0 k0 A1 n1 k1 A2 n2 k2 s w' n' mk' cyc' lng'
 kp:KeepD s w w'
 bel:Below s w w'
 pot:n'+200*unmarked (fsM ms) mk'≤n+1+200*unmarked (fsM ms) (putM mk c (-1))+D*i
section
variable {A0:Option Addr} {n0 k0:Nat} {A1:Option Addr} {n1 k1:Nat} {A2:Option Addr} {n2 k2:Nat} {s:Nat} {ms:List Mp} {c:Int} {to:List Int} {w:World} {n:Nat} {mk:Int→Option Int} {cyc:Bool} {D i:Nat} {vs:List Int} {w':World} {n':Nat} {mk':Int→Option Int} {cyc' lng':Bool}
theorem capSum_bd0 {vs:List Int} (h:∀v ∈ vs,1≤v∧v≤capE):0≤capSum capE vs∧capSum capE vs≤capE:=by
 by_cases e:vs=[]
 ·subst e;simp [capSum,capE]
 ·have:=capSum_pos (cap:=capE) (by unfold capE;omega) (fun v hv=>(h v hv).1) e
  omega
theorem SzLoop.next (h:SzLoop A0 n0 k0 A1 n1 k1 A2 n2 k2 s ms c to w n mk cyc D i vs w' n' mk' cyc' lng') (hi:i < to.length) {v:Int} {w2:World} {n2':Nat} {mk2:Int→Option Int} {cyc2 lng2:Bool}
  (p:SzPost A0 n0 k0 A1 n1 k1 A2 n2 k2 s ms to[i] w' n' mk' cyc' v w2 n2' mk2 cyc2 lng2) (hD:2*hk to[i]≤D):SzLoop A0 n0 k0 A1 n1 k1 A2 n2 k2 s ms c to w n mk cyc D (i+1) (vs++[v]) w2 n2' mk2 cyc2 lng2:=by
 refine ⟨hi,by simp [h.ln],fun x hx=>?_,h.ext.trans p.ext,p.inv,fun e=>p.mon (h.mon e),fun e j h1 h2=>?_,p.st,h.kp.trans p.kp,h.bel.trans p.bel,?_⟩
 ·rcases List.mem_append.1 hx with hx | hx
  ·exact h.bd x hx
  ·simp at hx;subst hx;exact p.bd
 ·by_cases e2:j < vs.length
  ·rw [List.getElem_append_left e2]
   refine h.sz ?_ j h1 e2
   cases hc:cyc' with
   | false=>rfl
   | true=>rw [p.mon hc] at e;cases e
  ·have e3:j=i:=by simp at h2;have:=h.ln;omega
   subst e3
   rw [List.getElem_append_right (by omega)]
   simpa [h.ln] using p.sz e
 ·have h1:=h.pot
  have h2:=p.pot
  rw [Nat.mul_succ]
  omega
end
theorem size_step (A0:Option Addr) (n0 k0:Nat) (A1:Option Addr) (k1:Nat) (A2:Option Addr) (n2 k2:Nat) (s:Nat) (ms:List Mp) (w0:World) (hs0:s=w0.heap.size) (hA:Mps w0 A1 ms) (hst:StF ms) (hco:CodesOk ms) (hbig:ms.length≤1048576) (u:Nat)
  (ih:SizeOk A0 n0 k0 A1 ms.length k1 A2 n2 k2 s ms w0 u):SizeOk A0 n0 k0 A1 ms.length k1 A2 n2 k2 s ms w0 (u+1):=by
 intro c w n mk cyc lng hu hc hinv hpath hms hbel hn
 have HI:=Lib.hid ih;clear ih
 have ON:=Lib.hid (fun W (hb:Below s w0 W)=>once_any A0 n0 k0 A1 ms.length k1 A2 n2 k2 ms c true W (hA.below (hs0 ▸ hb)) rfl hbig hst)
 have KD:=Lib.hid (fun to=>onM_kids (ms:=ms) (b:=true) (c:=c) (to:=to) hco)
 have HV:=Lib.hid hinv;have HP:=Lib.hid hpath
 have q0:w.cell? ⟨s,0,none⟩=some (.slice A0 n0 k0):=hms.bN.cell rfl
 have q1:w.cell? ⟨s,1,none⟩=some (.slice A1 ms.length k1):=hms.bN.cell rfl
 have q2:w.cell? ⟨s,2,none⟩=some (.slice A2 n2 k2):=hms.bN.cell rfl
 have HM:=Lib.hid hms
 clear hinv hpath hms hst hco hs0 hA
 generalize hR:onM ms true c=R at *
 have HR:=Lib.hid hR
 clear hR
 go_enter Tryz.func137,Tryz.ntmps137
 go_wp2_with fail
 with_reducible refine (ON.out _ hbel).mono ?_
 rintro e w1 ⟨E,d,rfl,hd,hE,hb1⟩
 clear ON
 have HM1:=Lib.hid (HM.out.below hb1)
 have HK1:=Lib.hid (KeepD.of_below (s:=s) hb1)
 have hsw:s≤w.heap.size:=Nat.le_of_lt HM.out.bN.lt
 have HB1:=Lib.hid (hb1.mono hsw)
 have leaf:∀(hl:R=none∨R=some []),SzRet A0 n0 k0 A1 ms.length k1 A2 n2 k2 s ms c w n mk cyc (.returned (.int .i64 1)) w1:=fun hl=>by
  refine ⟨1,n,mk,cyc,lng,rfl,⟨by unfold capE;omega,DExt.refl _,HV.out,fun h=>h,fun _=>.leaf (by rw [HR.out];exact hl),HM1.out,HK1.out,HB1.out,by omega,fun to h hne=>?_⟩⟩
  rw [HR.out] at h
  rcases hl with rfl | rfl
  ·cases h
  ·injection h with h;exact absurd h.symm hne
 have LF:=Lib.hid leaf
 clear leaf
 cases R with
 | none=>
  go_wp2_with fail
  go_ret
  exact LF.out (by simp)
 | some to=>
  simp only [Option.getD_some,Option.isSome_some] at hd hE ⊢
  rcases to with _ | ⟨t0,tr⟩
  ·go_wp2_with fail
   go_ret
   exact LF.out (by simp)
  clear LF
  generalize hto:t0::tr=to at *
  have hne:to≠[]:=by rw [←hto];simp
  have hlen:0 < to.length:=by rw [←hto];simp
  clear hto
  have p4:w1.cell? ⟨s+4,0,none⟩=some (.map (some (s+3))):=HM1.out.bM.cell rfl
  have hkey:iok c:=iok_code hc
  have hon:onM ms true c=some to:=HR.out
  have HON:=Lib.hid hon
  clear hon
  cases hm:mk c with
  | some k=>
   have HMK:=Lib.hid hm
   have f1:w1.frozen? ⟨s+1,0,none⟩=false:=HM1.out.bC.free 0
   have q1':w1.cell? ⟨s+1,0,none⟩=some (.bool cyc):=HM1.out.bC.cell rfl
   have hkb:=HV.out.bd c k hm
   have FIN:=Lib.hid (fun (v:Int) (b:Bool) (hv:v=max k 1) (hb:b=(cyc || (k==-1)))=>show SzRet A0 n0 k0 A1 ms.length k1 A2 n2 k2 s ms c w n mk cyc (.returned (.int .i64 v)) (w1.setCell ⟨s+1,0,none⟩ (.bool b)) from by
    subst hv;subst hb
    refine ⟨_,n,mk,_,lng,rfl,⟨by unfold capE at *;omega,DExt.refl _,HV.out.meet hm (fun e=>HP.out c e),fun h=>by simp [h],fun h=>?_,HM1.out.setC _,HK1.out.trans (KeepD.of_grown (grown_set _ _ _) (.inl rfl)),HB1.out.setCell (by simp) _,by omega,fun _ _ _=>⟨k,hm⟩⟩⟩
    simp only [Bool.or_eq_false_iff,beq_eq_false_iff_ne] at h
    have h1:=HV.out.fin h.1 c k hm h.2
    have h2:=h1.bd (by unfold capE;omega)
    rw [Int.max_eq_left h2.1]
    exact h1)
   have mk_at:(mk c).map (fun k=>(Value.int .i64 k))=some (.int .i64 k):=by rw [hm];rfl
   clear hm
   cases cyc with
   | true=>
    go_wp2_with (at_lookup;refine wpList_lookOk rfl _ _ 182 rfl HM1.out.mp law_int Tryz.underlying182 (zero_intM _) rfl rfl hkey (key_int hkey) ?_;rw [mk_at];simp only [Option.getD_some,Option.isSome_some])
    all_goals (go_ret;exact FIN.out _ _ (by omega) (by simp))
   | false=>
    by_cases hk1:k=-1
    ·subst hk1
     go_wp2_with (at_lookup;refine wpList_lookOk rfl _ _ 182 rfl HM1.out.mp law_int Tryz.underlying182 (zero_intM _) rfl rfl hkey (key_int hkey) ?_;rw [mk_at];simp only [Option.getD_some,Option.isSome_some])
     all_goals (go_ret;exact FIN.out _ _ (by omega) (by simp))
    ·have hk2:(k==-1)=false:=by simpa using hk1
     rw [hk2] at FIN
     clear hk2
     go_wp2_with (at_lookup;refine wpList_lookOk rfl _ _ 182 rfl HM1.out.mp law_int Tryz.underlying182 (zero_intM _) rfl rfl hkey (key_int hkey) ?_;rw [mk_at];simp only [Option.getD_some,Option.isSome_some])
     all_goals (go_ret;exact FIN.out _ _ (by omega) (by simp [hk1]))
  | none=>
   have mk_at:(mk c).map (fun k=>(Value.int .i64 k))=none:=by rw [hm];rfl
   go_wp2_with first
    | (at_lookup;refine wpList_lookOk rfl _ _ 182 rfl HM1.out.mp law_int Tryz.underlying182 (zero_intM _) rfl rfl hkey (key_int hkey) ?_;rw [mk_at];simp only [Option.getD_none,Option.isSome_none])
    | (at_mapUpdate;refine wpList_mput rfl _ _ _ 182 rfl HM1.out.mp law_int Tryz.underlying182 (by unfold maxLen;omega) rfl rfl rfl hkey (key_int hkey) (fun y _ e=>ikey_inj e) ?_;intro w2 hM2 hg2)
   have MS2:=Lib.hid (HM1.out.put (c:=c) (k:=-1) hM2 hg2)
   have hb2:Below s w w2:=below_grown HB1.out hg2 (by omega) (by have:=hb1.size;omega)
   have KD2:=Lib.hid (HK1.out.trans (KeepD.of_grown hg2 (.inr (.inr rfl))))
   have INT:=Lib.hid (fun (W:World) (hk:KeepD s w1 W)=>HM1.out.ints hk hE)
   have K12:=Lib.hid (KeepD.of_grown (s:=s) hg2 (.inr (.inr rfl)))
   clear hM2 hg2 hE mk_at p4
   obtain ⟨hl64,hcode,hdis⟩:=KD.out to rfl
   obtain ⟨D,hD1,hD2,hD3⟩:∃D,(∀e ∈ to,2*unmarked (fsM ms) (putM mk c (-1))+hk e < u)∧(∀e ∈ to,2*hk e≤D)∧n+2+200*unmarked (fsM ms) (putM mk c (-1))+D*64≤n+200*unmarked (fsM ms) mk+2*hk c:=by
    rcases hdis with ⟨g1,_,g3⟩ | ⟨g1,g2⟩
    ·have hle:unmarked (fsM ms) (putM mk c (-1))≤unmarked (fsM ms) mk:=unmarked_le fun x e=>by
      by_cases e':x=c
      ·rw [e',hm]
      ·rw [putM_other _ _ e'] at e;exact e
     exact ⟨0,fun e he=>by have:=g3 e he;omega,fun e he=>by have:=g3 e he;omega,by omega⟩
    ·have hlt:=unmarked_put (k:=-1) g2 hm
     exact ⟨2,fun e _=>by have:=hk_le e;omega,fun e _=>by have:=hk_le e;omega,by omega⟩
   have HD1:=Lib.hid hD1;have HD2:=Lib.hid hD2;have HD3:=Lib.hid hD3
   have HCO:=Lib.hid hcode
   have HMN:=Lib.hid hm
   have HN:=Lib.hid hn
   have HU:=Lib.hid hu
   clear hD1 hD2 hD3 hcode hdis KD hm hn hu
   go_loopw [12,46] (fun su q wr=>∃(i:Nat) (vs:List Int) (n':Nat) (mk':Int→Option Int) (cyc' lng':Bool),su=.int .i64 (capSum capE vs)∧q=.int .i64 i∧KeepD s w1 wr∧SzLoop A0 n0 k0 A1 ms.length k1 A2 n2 k2 s ms c to w n mk cyc D i vs wr n' mk' cyc' lng')
    (fun _ q _=>to.length - (intOf q).toNat)
   case atStart=>
    exact ⟨0,[],n+1,putM mk c (-1),cyc,lng,rfl,rfl,K12.out,⟨Nat.zero_le _,rfl,fun v h=>absurd h (by simp),DExt.refl _,HV.out.begin HON.out hne HMN.out (by unfold capE;omega) (by unfold mxE;omega),fun h=>h,fun _ j _ h2=>by simp at h2,MS2.out,KD2.out,hb2,by simp⟩⟩
   case round=>
    obtain ⟨i,vs,n',mk',cyc',lng',rfl,rfl,hkp,HL⟩:=hrel
    have hsum:0≤capSum capE vs∧capSum capE vs≤65:=capSum_bd0 HL.bd
    have hile:=HL.le
    have HLP:=Lib.hid HL
    clear HL
    by_cases hi:i < to.length
    ·obtain ⟨b,o,rfl,hcell⟩:=(INT.out wr hkp).at hi
     have hc0:=hcell i hi
     clear hcell
     have p5:wr.cell? ⟨s+5,0,none⟩=some (.func (.func 137) #[] #[.pointer (some ⟨s,0,none⟩),.pointer (some ⟨s+4,0,none⟩),.pointer (some ⟨s+1,0,none⟩),.pointer (some ⟨s+5,0,none⟩),.pointer (some ⟨s+2,0,none⟩)]):=HLP.out.st.bS.cell rfl
     have hmem:to[i] ∈ to:=List.getElem_mem hi
     have CL:=Lib.hid (HI.out to[i] wr n' mk' cyc' lng' (by have h1:=HD1.out _ hmem;have h2:=HLP.out.ext.unmarked (fsM ms);omega) (HCO.out _ hmem) HLP.out.inv (HLP.out.ext.way HP.out ⟨to,HON.out,hmem⟩) HLP.out.st (hbel.trans HLP.out.bel)
      (by have h1:=HLP.out.pot;have h2:=HD3.out;have h3:=HN.out;have h4:=HD2.out _ hmem;have h5:D*i+D≤D*64:=by { rw [←Nat.mul_succ];exact Nat.mul_le_mul_left _ (by omega) };omega))
     have NX:=Lib.hid (fun (v:Int) W n2' mk2 cyc2 lng2 (p:SzPost A0 n0 k0 A1 ms.length k1 A2 n2 k2 s ms to[i] wr n' mk' cyc' v W n2' mk2 cyc2 lng2)=>HLP.out.next hi p (HD2.out _ hmem))
     clear hmem
     generalize to[i]=te at *
     have CS:=Lib.hid (fun v=>(capSum_snoc capE vs v))
     generalize capSum capE vs=sm at *
     unfold capE at CS
     go_wp2_with fail
     with_reducible refine CL.out.mono ?_
     rintro e W ⟨v,n2',mk2,cyc2,lng2,rfl,hp⟩
     have hvb:=hp.bd
     have NX2:=Lib.hid (NX.out v W n2' mk2 cyc2 lng2 hp)
     have HKK:=Lib.hid (hkp.trans hp.kp)
     clear hp CL NX p5
     unfold capE at hvb
     have CV:=Lib.hid (CS.out v)
     go_wp2_with fail
     all_goals
      go_roundw
      case rel=>exact ⟨i+1,vs++[v],n2',mk2,cyc2,lng2,by { show _=Value.int .i64 (capSum 65 (vs++[v]));rw [CV.out];congr 1;split <;> omega },by go_num,HKK.out,NX2.out⟩
      case measure=>simp [intOf];omega
    ·have hi':i=to.length:=by omega
     subst hi'
     have p4:wr.cell? ⟨s+4,0,none⟩=some (.map (some (s+3))):=HLP.out.st.bM.cell rfl
     have hvne:vs≠[]:=fun e=>by have:=HLP.out.ln;rw [e] at this;simp at this;omega
     have hpos:=capSum_pos (cap:=capE) (by unfold capE;omega) (fun v hv=>(HLP.out.bd v hv).1) hvne
     have HZ:=Lib.hid (fun (h:cyc'=false)=>Sz.node (on:=onM ms true) (cap:=capE) HON.out hne HLP.out.ln (fun j h1 h2=>HLP.out.sz h j h1 h2))
     have hmc:mk' c=some (-1):=HLP.out.ext.old c (-1) (putM_same _ _ _)
     have hnn:n' < maxLen:=by
      have h1:=HLP.out.pot;have h2:=HD3.out;have h3:=HN.out
      have h5:D*to.length≤D*64:=Nat.mul_le_mul_left _ hl64
      unfold maxLen;omega
     have POT:=Lib.hid (show n'+1+200*unmarked (fsM ms) (putM mk' c (capSum capE vs))≤n+200*unmarked (fsM ms) mk+2*hk c from by
      have h1:=HLP.out.pot;have h2:=HD3.out
      have h5:D*to.length≤D*64:=Nat.mul_le_mul_left _ hl64
      have h6:unmarked (fsM ms) (putM mk' c (capSum capE vs))≤unmarked (fsM ms) mk':=unmarked_le fun x e=>by
       by_cases e':x=c
       ·rw [e',putM_same] at e;cases e
       ·rw [putM_other _ _ e'] at e;exact e
      omega)
     have hsW:s≤wr.heap.size:=Nat.le_of_lt HLP.out.st.bN.lt
     have FIN:=Lib.hid (fun (w3:World) (hM3:MapI w3 (s+3) (n'+1) (fun y=>if y=c then some (.int .i64 (capSum capE vs)) else (mk' y).map (fun k=>.int .i64 k))) (hg3:wr.grownBy w3 (some (s+3))) (b:Bool) (hb:b=(lng' || decide (64 < capSum capE vs)))=>show
      SzRet A0 n0 k0 A1 ms.length k1 A2 n2 k2 s ms c w n mk cyc (.returned (.int .i64 (capSum capE vs))) (w3.setCell ⟨s+2,0,none⟩ (.bool b)) from by
       subst hb
       exact ⟨capSum capE vs,n'+1,putM mk' c (capSum capE vs),cyc',lng' || decide (64 < capSum capE vs),rfl,⟨hpos,HLP.out.ext.finish HMN.out (by omega),HLP.out.inv.finish HON.out hne hmc hpos HZ.out (by unfold mxE;omega),HLP.out.mon,HZ.out,(HLP.out.st.put hM3 hg3).setL _,
        (HLP.out.kp.trans (KeepD.of_grown hg3 (.inr (.inr rfl)))).trans (KeepD.of_grown (grown_set _ _ _) (.inr (.inl rfl))),(below_grown HLP.out.bel hg3 (by omega) hsW).setCell (by simp) _,POT.out,fun _ _ _=>⟨_,putM_same _ _ _⟩⟩⟩)
     have LG:=Lib.hid (fun (w3:World) (hg3:wr.grownBy w3 (some (s+3)))=>HLP.out.st.bL.grown hg3 (by simp))
     have HMP:=Lib.hid HLP.out.st.mp
     clear hpos hmc HZ POT hvne
     generalize capSum capE vs=sm at *
     generalize hl:lng'=lg at *
     clear HLP hl
     go_wp2_with (at_mapUpdate;refine wpList_mput rfl _ _ _ 182 rfl HMP.out law_int Tryz.underlying182 hnn rfl rfl rfl hkey (key_int hkey) (fun y _ e=>ikey_inj e) ?_;intro w3 hM3 hg3;have f3:w3.frozen? ⟨s+2,0,none⟩=false:=(LG.out w3 hg3).free 0;have q3:w3.cell? ⟨s+2,0,none⟩=some (.bool lg):=(LG.out w3 hg3).cell rfl;have FN:=Lib.hid (FIN.out w3 hM3 hg3);clear hM3 hg3;cases lg)
     all_goals go_wp2_with fail
     all_goals (go_ret;exact FN.out _ (by simp))
theorem size_ok (A0:Option Addr) (n0 k0:Nat) (A1:Option Addr) (k1:Nat) (A2:Option Addr) (n2 k2:Nat) (s:Nat) (ms:List Mp) (w0:World) (hs0:s=w0.heap.size) (hA:Mps w0 A1 ms) (hst:StF ms) (hco:CodesOk ms) (hbig:ms.length≤1048576) (u:Nat) :
  SizeOk A0 n0 k0 A1 ms.length k1 A2 n2 k2 s ms w0 u:=by
 induction u with
 | zero=>intro c w n mk cyc lng hu;omega
 | succ u ih=>exact size_step A0 n0 k0 A1 k1 A2 n2 k2 s ms w0 hs0 hA hst hco hbig u ih
end Go.Proofs.YtijgbonhjcblcaaGreatDoor
namespace Go.Proofs.YtijgbonhjcblcaaGreatDoor
open Go.RowKit
def NoHg (ms:List Mp):Prop:=∀i,(hi:i < ms.length)→Hg.kind ms[i].frm=0
structure MeasOk (ms:List Mp) (cyc lng:Bool):Prop where
 cy:cyc=true→∃x,Path (onM ms true) x x
 ends:cyc=false→∀i,(hi:i < ms.length)→∃v,Sz (onM ms true) capE ms[i].frm v
 lg:cyc=false→(lng=true ↔ ∃i,∃hi:i < ms.length,∃v,Sz (onM ms true) capE ms[i].frm v∧mxE < v)
theorem frmM_at {ms:List Mp} {i:Nat} (hi:i < ms.length):frmM ms i=ms[i].frm:=by simp [frmM,List.getD,hi]
theorem toM_at {ms:List Mp} {i:Nat} (hi:i < ms.length):toM ms i=ms[i].to:=by simp [toM,List.getD,hi]
theorem onM_frm {ms:List Mp} (hs:StF ms) (hh:NoHg ms) (compat:Bool) {i:Nat} (hi:i < ms.length):onM ms compat ms[i].frm=if compat=true∨ms[i].tag.size=0 then some ms[i].to else none:=by
 unfold onM
 rw [if_neg (by rw [hh i hi];omega),fndM_some hs hi rfl]
 split
 ·rw [Option.map_some,toM_at hi]
 ·rfl
theorem onM_none_kind {ms:List Mp} (hh:NoHg ms) (compat:Bool) {e:Int} (h1:1≤Hg.kind e) (h2:Hg.kind e < 4):onM ms compat e=none:=by
 unfold onM
 rw [if_neg (by omega),fndM_none,Option.map_none]
 intro i hi he
 have:=hh i hi
 rw [he] at this
 omega
theorem capSum_ones (n:Nat) (h:(n:Int)≤capE):capSum capE (List.replicate n 1)=n:=by
 rw [capSum_eq (fun v hv=>by rw [List.eq_of_mem_replicate hv];omega) (by unfold capE;omega)]
 have:∀n:Nat,(List.replicate n (1:Int)).sum=n:=by
  intro n
  induction n with
  | zero=>rfl
  | succ n ih=>rw [List.replicate_succ,List.sum_cons,ih];omega
 rw [this]
 omega
theorem Sz_no {ms:List Mp} (hh:NoHg ms) (compat:Bool) {e:Int} (h:fndM ms compat e=none):Sz (onM ms compat) capE e (dlM e):=by
 by_cases h4:4≤Hg.kind e
 ·obtain ⟨d1,d2⟩:=decomp_kids h4
  have hon:onM ms compat e=some (Hg.decomp e):=if_pos h4
  have hne:Hg.decomp e≠[]:=by
   have h5:=(Hg.kind_range e).2
   by_cases h44:Hg.kind e=4
   ·rw [decomp_2 h44];simp
   ·rw [decomp_3 (by omega)];simp
  have:=Sz.node (on:=onM ms compat) (cap:=capE) (vs:=List.replicate (Hg.decomp e).length 1) hon hne (by simp) (fun i h1 h2=>by
   rw [List.getElem_replicate]
   obtain ⟨_,g2,g3⟩:=d2 _ (List.getElem_mem h1)
   refine .leaf (.inl (onM_none_kind hh compat g3 ?_))
   unfold hk at g2
   split at g2
   ·cases g2
   ·omega)
  rw [capSum_ones _ (by unfold capE;omega)] at this
  exact this
 ·have hd:dlM e=1:=by unfold dlM;rw [decomp_no (by omega)];rfl
  rw [hd]
  refine .leaf (.inl ?_)
  unfold onM
  rw [if_neg h4,h]
  rfl
theorem maps1 {ms:List Mp} (hs:StF ms) (hh:NoHg ms) (compat:Bool):Maps1 ms.length (frmM ms) (toM ms) (fndM ms compat) dlM capE (onM ms compat) (skipM ms compat):=by
 refine ⟨by unfold capE;omega,fun i hi hk=>?_,fun i hi hk=>?_,fun e m h=>?_,fun e h=>Sz_no hh compat h⟩
 ·rw [frmM_at hi,onM_frm hs hh compat hi,toM_at hi,if_pos]
  unfold skipM at hk
  cases compat <;> simp_all [List.getD]
 ·rw [frmM_at hi,onM_frm hs hh compat hi,if_neg]
  unfold skipM at hk
  cases compat <;> simp_all [List.getD]
 ·obtain ⟨hi,h1,_⟩:=fndM_at h
  exact ⟨hi,by rw [frmM_at hi];exact h1⟩
theorem long_frm {ms:List Mp} (hh:NoHg ms) {c v:Int} (h:Sz (onM ms true) capE c v) (hv:mxE < v):∃i,∃hi:i < ms.length,ms[i].frm=c:=by
 cases hf:fndM ms true c with
 | some i=>obtain ⟨hi,h1,_⟩:=fndM_at hf;exact ⟨i,hi,h1⟩
 | none=>
  have h1:=h.func (Sz_no hh true hf)
  subst h1
  exfalso
  unfold dlM mxE at hv
  by_cases h4:4≤Hg.kind c
  ·have:=(decomp_kids h4).1;omega
  ·rw [decomp_no (by omega)] at hv;simp at hv
theorem MeasOk.of {ms:List Mp} {mk:Int→Option Int} {cyc lng:Bool} (hs:StF ms) (hh:NoHg ms) (h:DInv (onM ms true) capE mxE mk cyc lng) (hf:∀x,mk x≠some (-1)) (hm:∀i,(hi:i < ms.length)→ms[i].to≠[]→∃k,mk ms[i].frm=some k):MeasOk ms cyc lng:=by
 have hon:=fun i (hi:i < ms.length)=>(onM_frm hs hh true hi).trans (if_pos (.inl rfl))
 have hsz:cyc=false→∀i,(hi:i < ms.length)→∃v,Sz (onM ms true) capE ms[i].frm v∧(mk ms[i].frm=some v∨v=1):=fun hc i hi=>by
  by_cases ht:ms[i].to=[]
  ·exact ⟨1,.leaf (.inr (by rw [hon i hi,ht])),.inr rfl⟩
  ·obtain ⟨k,hk⟩:=hm i hi ht
   exact ⟨k,h.fin hc _ k hk (fun e=>hf _ (by rw [hk,e])),.inl hk⟩
 refine ⟨h.cy,fun hc i hi=>?_,fun hc=>⟨fun hl=>?_,?_⟩⟩
 ·obtain ⟨v,h1,_⟩:=hsz hc i hi;exact ⟨v,h1⟩
 ·obtain ⟨c,k,h1,h2⟩:=h.lg1 hl
  have h3:=h.fin hc c k h1 (by unfold mxE at h2;omega)
  obtain ⟨i,hi,he⟩:=long_frm hh h3 h2
  subst he
  exact ⟨i,hi,k,h3,h2⟩
 ·rintro ⟨i,hi,v,h1,h2⟩
  obtain ⟨v',g1,g2⟩:=hsz hc i hi
  have:=h1.func g1
  subst this
  rcases g2 with g2 | g2
  ·exact h.lg2 _ v g2 h2
  ·unfold mxE at h2;omega
theorem Sz_le {ms:List Mp} (hs:StF ms) {c v:Int} (h:Sz (onM ms true) capE c v):∃u,Sz (onM ms false) capE c u∧u≤v:=by
 have hsub:∀c to,onM ms false c=some to→onM ms true c=some to:=fun c to h=>by
  unfold onM at h ⊢
  split
  ·next h4=>rw [if_pos h4] at h;exact h
  ·next h4=>
   rw [if_neg h4] at h
   cases hf:fndM ms false c with
   | none=>rw [hf] at h;cases h
   | some i=>
    obtain ⟨hi,h1,_⟩:=fndM_at hf
    rw [hf] at h
    rw [fndM_some hs hi h1,if_pos (.inl rfl)]
    exact h
 have hcap:(1:Int)≤capE:=by unfold capE;omega
 induction h with
 | @leaf c h=>
  refine ⟨1,.leaf ?_,by omega⟩
  cases hf:onM ms false c with
  | none=>exact .inl rfl
  | some to=>
   right
   rcases h with h | h
   ·rw [hsub c to hf] at h;cases h
   ·rw [hsub c to hf] at h;exact h
 | @node c to vs h1 h2 h3 h4 ih=>
  cases hf:onM ms false c with
  | none=>exact ⟨1,.leaf (.inl hf),(Sz.bd hcap (Sz.node h1 h2 h3 h4)).1⟩
  | some to'=>
   have:=hsub c to' hf
   rw [h1] at this
   injection this with this
   subst this
   have hch:∀i:Nat,∃u:Int,∀(hi:i < to.length) (hv:i < vs.length),Sz (onM ms false) capE to[i] u∧u≤vs[i]:=fun i=>by
    by_cases hi:i < to.length
    ·obtain ⟨u,g1,g2⟩:=ih i hi (by omega)
     exact ⟨u,fun _ _=>⟨g1,g2⟩⟩
    ·exact ⟨0,fun h=>absurd h hi⟩
   refine ⟨capSum capE ((List.range to.length).map (fun i=>(hch i).choose)),.node hf h2 (by simp) (fun i h1 h2=>?_),?_⟩
   ·simp only [List.getElem_map,List.getElem_range]
    exact ((hch i).choose_spec h1 (by omega)).1
   ·have hmono:∀(a b:List Int),a.length=b.length→(∀i,(h1:i < a.length)→(h2:i < b.length)→a[i]≤b[i])→∀s t:Int,s≤t→a.foldl (fun s v=>min (s+v) capE) s≤b.foldl (fun s v=>min (s+v) capE) t:=by
     intro a
     induction a with
     | nil=>intro b hl _ s t hst;cases b with | nil=>exact hst | cons _ _=>simp at hl
     | cons x a iha=>
      intro b hl hle s t hst
      cases b with
      | nil=>simp at hl
      | cons y b=>
       have h0:=hle 0 (by simp) (by simp)
       simp only [List.getElem_cons_zero] at h0
       refine iha b (by simpa using hl) (fun i g1 g2=>?_) _ _ (by dsimp only;omega)
       have:=hle (i+1) (by simp;omega) (by simp;omega)
       simpa using this
    refine hmono _ _ (by simp [h3]) (fun i g1 g2=>?_) 0 0 (by omega)
    simp only [List.getElem_map,List.getElem_range]
    simp at g1
    exact ((hch i).choose_spec g1 g2).2
end Go.Proofs.YtijgbonhjcblcaaGreatDoor
namespace Go.Proofs.YtijgbonhjcblcaaGreatDoor
open Go.RowKit Go.Maps Go.WideMaps
theorem load_bool (W:World) (a:Addr) (x:Bool) (h:W.cell? a=some (.bool x)):(loadVar 4 a).run Tryz.prog W=.ok (.bool x) W:=by
 have hu:=Tryz.underlying4
 simp only [loadVar,isAgg,Sem.run_bind,run_underlying hu,Result.andThen_ok,Sem.run_pure]
 simp [run_load,h]
theorem results_cell2 {fn:Func} {p q:Tmp} {t u:TypeId} (h:fn.results=#[.cell p t,.cell q u]) (tmps:Array Value) (P:Program) (w:World) {a b:Addr} {x y:Value} (ha:tmps.getD p undef=.pointer (some a)) (hb:tmps.getD q undef=.pointer (some b))
  (hx:(loadVar t a).run P w=.ok x w) (hy:(loadVar u b).run P w=.ok y w):(results fn tmps).run P w=.ok (.tuple #[x,y]) w:=by
 rw [Array.getD_eq_getD_getElem?] at ha hb
 simp only [results,h]
 simp [Sem.run_bind,Result.andThen,ha,hb,asAddr,hx,hy]
theorem DInv_none (on:Int→Option (List Int)) (cap mx:Int):DInv on cap mx (fun _=>none) false false:=⟨fun _ _ h=>(by cases h),fun _ _ _ h=>(by cases h),fun h=>(by cases h),fun h=>(by cases h),fun _ _ h=>(by cases h),fun _ _ h=>(by cases h)⟩
def RetMeas (ms:List Mp) (w:World) (e:Ending) (w':World):Prop:=∃cyc lng,e=.returned (.tuple #[.bool cyc,.bool lng])∧MeasOk ms cyc lng∧Below w.heap.size w w'
theorem unmarked_len (fs:List Int) (mk:Int→Option Int):unmarked fs mk≤fs.length:=List.length_filter_le _ _
theorem MS_new (A0:Option Addr) (n0 k0:Nat) (A1:Option Addr) (n1 k1:Nat) (A2:Option Addr) (n2 k2:Nat) (w:World):MS A0 n0 k0 A1 n1 k1 A2 n2 k2 w.heap.size (((((((w).alloc (.cells #[.slice A0 n0 k0,.slice A1 n1 k1,.slice A2 n2 k2] 28)).alloc (.cells #[.bool false] 4)).alloc (.cells #[.bool false] 4)).alloc (.map #[] 0)).alloc (.cells #[.map (some (w.heap.size+1+1+1))] 182)).alloc (.cells #[.func (.func 137) #[] #[.pointer (some ⟨w.heap.size,0,none⟩),.pointer (some ⟨w.heap.size+1+1+1+1,0,none⟩),.pointer (some ⟨w.heap.size+1,0,none⟩),.pointer (some ⟨w.heap.size+1+1+1+1+1,0,none⟩),.pointer (some ⟨w.heap.size+1+1,0,none⟩)]] 81)) 0 (fun _=>none) false false∧Below w.heap.size w (((((((w).alloc (.cells #[.slice A0 n0 k0,.slice A1 n1 k1,.slice A2 n2 k2] 28)).alloc (.cells #[.bool false] 4)).alloc (.cells #[.bool false] 4)).alloc (.map #[] 0)).alloc (.cells #[.map (some (w.heap.size+1+1+1))] 182)).alloc (.cells #[.func (.func 137) #[] #[.pointer (some ⟨w.heap.size,0,none⟩),.pointer (some ⟨w.heap.size+1+1+1+1,0,none⟩),.pointer (some ⟨w.heap.size+1,0,none⟩),.pointer (some ⟨w.heap.size+1+1+1+1+1,0,none⟩),.pointer (some ⟨w.heap.size+1+1,0,none⟩)]] 81)):=by
 have h1:Box ((w).alloc (.cells #[.slice A0 n0 k0,.slice A1 n1 k1,.slice A2 n2 k2] 28)) w.heap.size 28 [.slice A0 n0 k0,.slice A1 n1 k1,.slice A2 n2 k2]:=Box.new _ _ _ rfl
 have h2:Box (((w).alloc (.cells #[.slice A0 n0 k0,.slice A1 n1 k1,.slice A2 n2 k2] 28)).alloc (.cells #[.bool false] 4)) (w.heap.size+1) 4 [.bool false]:=Box.new _ _ _ (by simp)
 have h3:Box ((((w).alloc (.cells #[.slice A0 n0 k0,.slice A1 n1 k1,.slice A2 n2 k2] 28)).alloc (.cells #[.bool false] 4)).alloc (.cells #[.bool false] 4)) (w.heap.size+2) 4 [.bool false]:=Box.new _ _ _ (by simp)
 have h4:MapI (((((w).alloc (.cells #[.slice A0 n0 k0,.slice A1 n1 k1,.slice A2 n2 k2] 28)).alloc (.cells #[.bool false] 4)).alloc (.cells #[.bool false] 4)).alloc (.map #[] 0)) (w.heap.size+3) 0 (fun _=>none):=by
  have:=MapIs.made Tryz.prog 3 ikey iok ((((w).alloc (.cells #[.slice A0 n0 k0,.slice A1 n1 k1,.slice A2 n2 k2] 28)).alloc (.cells #[.bool false] 4)).alloc (.cells #[.bool false] 4))
  simpa using this
 have h5:Box ((((((w).alloc (.cells #[.slice A0 n0 k0,.slice A1 n1 k1,.slice A2 n2 k2] 28)).alloc (.cells #[.bool false] 4)).alloc (.cells #[.bool false] 4)).alloc (.map #[] 0)).alloc (.cells #[.map (some (w.heap.size+1+1+1))] 182)) (w.heap.size+4) 182 [.map (some (w.heap.size+1+1+1))]:=Box.new _ _ _ (by simp)
 have h6:Box (((((((w).alloc (.cells #[.slice A0 n0 k0,.slice A1 n1 k1,.slice A2 n2 k2] 28)).alloc (.cells #[.bool false] 4)).alloc (.cells #[.bool false] 4)).alloc (.map #[] 0)).alloc (.cells #[.map (some (w.heap.size+1+1+1))] 182)).alloc (.cells #[.func (.func 137) #[] #[.pointer (some ⟨w.heap.size,0,none⟩),.pointer (some ⟨w.heap.size+1+1+1+1,0,none⟩),.pointer (some ⟨w.heap.size+1,0,none⟩),.pointer (some ⟨w.heap.size+1+1+1+1+1,0,none⟩),.pointer (some ⟨w.heap.size+1+1,0,none⟩)]] 81)) (w.heap.size+5) 81 [.func (.func 137) #[] #[.pointer (some ⟨w.heap.size,0,none⟩),.pointer (some ⟨w.heap.size+1+1+1+1,0,none⟩),.pointer (some ⟨w.heap.size+1,0,none⟩),.pointer (some ⟨w.heap.size+1+1+1+1+1,0,none⟩),.pointer (some ⟨w.heap.size+1+1,0,none⟩)]]:=Box.new _ _ _ (by simp)
 have al:∀(W:World) (o:Obj),Below W.heap.size W (W.alloc o):=fun W o=>(Below.refl _ _).alloc (Nat.le_refl _) _
 have b2:=al ((w).alloc (.cells #[.slice A0 n0 k0,.slice A1 n1 k1,.slice A2 n2 k2] 28)) (.cells #[.bool false] 4)
 have b3:=al (((w).alloc (.cells #[.slice A0 n0 k0,.slice A1 n1 k1,.slice A2 n2 k2] 28)).alloc (.cells #[.bool false] 4)) (.cells #[.bool false] 4)
 have b4:=al ((((w).alloc (.cells #[.slice A0 n0 k0,.slice A1 n1 k1,.slice A2 n2 k2] 28)).alloc (.cells #[.bool false] 4)).alloc (.cells #[.bool false] 4)) (.map #[] 0)
 have b5:=al (((((w).alloc (.cells #[.slice A0 n0 k0,.slice A1 n1 k1,.slice A2 n2 k2] 28)).alloc (.cells #[.bool false] 4)).alloc (.cells #[.bool false] 4)).alloc (.map #[] 0)) (.cells #[.map (some (w.heap.size+1+1+1))] 182)
 have b6:=al ((((((w).alloc (.cells #[.slice A0 n0 k0,.slice A1 n1 k1,.slice A2 n2 k2] 28)).alloc (.cells #[.bool false] 4)).alloc (.cells #[.bool false] 4)).alloc (.map #[] 0)).alloc (.cells #[.map (some (w.heap.size+1+1+1))] 182)) (.cells #[.func (.func 137) #[] #[.pointer (some ⟨w.heap.size,0,none⟩),.pointer (some ⟨w.heap.size+1+1+1+1,0,none⟩),.pointer (some ⟨w.heap.size+1,0,none⟩),.pointer (some ⟨w.heap.size+1+1+1+1+1,0,none⟩),.pointer (some ⟨w.heap.size+1+1,0,none⟩)]] 81)
 refine ⟨⟨?_,?_,?_,?_,?_,?_⟩,?_⟩
 ·exact ((((h1.below b2 h1.lt).below b3 (h1.below b2 h1.lt).lt).below b4 (by simp <;> omega)).below b5 (by simp <;> omega)).below b6 (by simp <;> omega)
 ·exact (((h2.below b3 h2.lt).below b4 (by simp <;> omega)).below b5 (by simp <;> omega)).below b6 (by simp <;> omega)
 ·exact ((h3.below b4 h3.lt).below b5 (by simp <;> omega)).below b6 (by simp <;> omega)
 ·exact (h4.below b5).below b6
 ·exact h5.below b6 h5.lt
 ·exact h6
 ·exact ((((((Below.refl _ _).alloc (Nat.le_refl _) _).alloc (by simp) _).alloc (by simp <;> omega) _).alloc (by simp <;> omega) _).alloc (by simp <;> omega) _).alloc (by simp <;> omega) _
theorem measure_any (A0:Option Addr) (n0 k0:Nat) (A1:Option Addr) (n1 k1:Nat) (A2:Option Addr) (n2 k2:Nat) (ms:List Mp) (w:World) (hA:Mps w A1 ms) (hn:ms.length=n1) (hst:StF ms) (hco:CodesOk ms) (hh:NoHg ms) (hbig:n1≤1048576) :
  Calls Tryz.prog 95 #[.agg #[.slice A0 n0 k0,.slice A1 n1 k1,.slice A2 n2 k2]] w (RetMeas ms w):=by
 subst hn
 have SZ:=Lib.hid (size_ok A0 n0 k0 A1 k1 A2 n2 k2 w.heap.size ms w rfl hA hst hco hbig)
 have OK:=Lib.hid (fun mk cyc lng=>MeasOk.of (mk:=mk) (cyc:=cyc) (lng:=lng) hst hh)
 have ON:=Lib.hid (fun i (hi:i < ms.length)=>(onM_frm hst hh true hi).trans (if_pos (.inl rfl)))
 have HH:=Lib.hid (fun i (hi:i < ms.length)=>show hk ms[i].frm=0 from by unfold hk;rw [hh i hi];rfl)
 have CO:=Lib.hid (fun i (hi:i < ms.length)=>(hco i hi).1)
 clear hst hco hh
 have hmm:=@run_makeMap Tryz.prog
 have hsf:=fun (W:World) (a:Addr) (m:Mode) (fn:Fn) (x y:Array Value)=>run_store Tryz.prog W a (.func fn x y) m rfl
 go_enter Tryz.func95,Tryz.ntmps95
 go_wp2_with fail
 obtain ⟨W0,hW0⟩:∃W0,(((((((w).alloc (.cells #[.slice A0 n0 k0,.slice A1 ms.length k1,.slice A2 n2 k2] 28)).alloc (.cells #[.bool false] 4)).alloc (.cells #[.bool false] 4)).alloc (.map #[] 0)).alloc (.cells #[.map (some (w.heap.size+1+1+1))] 182)).alloc (.cells #[.func (.func 137) #[] #[.pointer (some ⟨w.heap.size,0,none⟩),.pointer (some ⟨w.heap.size+1+1+1+1,0,none⟩),.pointer (some ⟨w.heap.size+1,0,none⟩),.pointer (some ⟨w.heap.size+1+1+1+1+1,0,none⟩),.pointer (some ⟨w.heap.size+1+1,0,none⟩)]] 81))=W0:=⟨_,rfl⟩
 obtain ⟨hM0,hB0⟩:=MS_new A0 n0 k0 A1 ms.length k1 A2 n2 k2 w
 rw [hW0] at hM0 hB0 ⊢
 clear hW0 hmm hsf
 have HM0:=Lib.hid hM0;clear hM0
 go_loopw [7,13] (fun _ u wr=>∃(i n:Nat) (mk:Int→Option Int) (cyc lng:Bool),i≤ms.length∧u=.int .i64 i∧MS A0 n0 k0 A1 ms.length k1 A2 n2 k2 w.heap.size wr n mk cyc lng∧DInv (onM ms true) capE mxE mk cyc lng∧(∀x,mk x≠some (-1))∧n+200*unmarked (fsM ms) mk≤200*ms.length∧
   (∀t,(ht:t < ms.length)→t < i→ms[t].to≠[]→∃k,mk ms[t].frm=some k)∧Below w.heap.size w wr) (fun _ u _=>ms.length - (intOf u).toNat)
 case atStart=>
  refine ⟨0,0,_,false,false,Nat.zero_le _,rfl,HM0.out,DInv_none _ _ _,fun x h=>(by cases h),?_,fun t _ h=>absurd h (Nat.not_lt_zero _),hB0⟩
  have:=unmarked_len (fsM ms) (fun _=>none)
  unfold fsM at *
  rw [List.length_map] at this
  omega
 case round=>
  obtain ⟨i,n,mk,cyc,lng,hi,rfl,hMS,hDI,hfin,hpot,hmkd,hb⟩:=hrel
  have HMS:=Lib.hid hMS;have HDI:=Lib.hid hDI;have HFI:=Lib.hid hfin;have HPO:=Lib.hid hpot;have HMD:=Lib.hid hmkd
  clear hMS hDI hfin hpot hmkd
  by_cases hlt:i < ms.length
  ·obtain ⟨b,o,rfl,_,hcell⟩:=(hA.below hb).at hlt
   obtain ⟨E,d,c1,c2,c3,_,_⟩:=hcell i hlt
   clear hcell
   have HO:=Lib.hid (ON.out i hlt)
   have h0:=HH.out i hlt
   have hcd:=CO.out i hlt
   have HST:=Lib.hid (fun (mk':Int→Option Int) (he:DExt mk mk') (hm:ms[i].to≠[]→∃k,mk' ms[i].frm=some k)=>show ∀t,(ht:t < ms.length)→t < i+1→ms[t].to≠[]→∃k,mk' ms[t].frm=some k from fun t ht h1 h2=>by
    by_cases e:t=i
    ·subst e;exact hm h2
    ·obtain ⟨k,hk⟩:=HMD.out t ht (by omega) h2;exact ⟨k,he.old _ _ hk⟩)
   generalize ms[i].frm=f at *
   generalize ms[i].to=to at *
   generalize ms[i].tag=tg at *
   have hBa:Below wr.heap.size wr (wr.alloc (.cells #[.int .i64 f,.slice E to.length d,.string tg] 63)):=(Below.refl _ _).alloc (Nat.le_refl _) _
   have hbW:=hb.trans (hBa.mono hb.size)
   have hMW:=HMS.out.below hBa
   have p5:(wr.alloc (.cells #[.int .i64 f,.slice E to.length d,.string tg] 63)).cell? ⟨w.heap.size+1+1+1+1+1,0,none⟩=some (.func (.func 137) #[] #[.pointer (some ⟨w.heap.size,0,none⟩),.pointer (some ⟨w.heap.size+1+1+1+1,0,none⟩),.pointer (some ⟨w.heap.size+1,0,none⟩),.pointer (some ⟨w.heap.size+1+1+1+1+1,0,none⟩),.pointer (some ⟨w.heap.size+1+1,0,none⟩)]):=hMW.bS.cell rfl
   have q5:wr.cell? ⟨w.heap.size+1+1+1+1+1,0,none⟩=some (.func (.func 137) #[] #[.pointer (some ⟨w.heap.size,0,none⟩),.pointer (some ⟨w.heap.size+1+1+1+1,0,none⟩),.pointer (some ⟨w.heap.size+1,0,none⟩),.pointer (some ⟨w.heap.size+1+1+1+1+1,0,none⟩),.pointer (some ⟨w.heap.size+1+1,0,none⟩)]):=HMS.out.bS.cell rfl
   have CL:=Lib.hid (show Calls Tryz.prog 137 #[.int .i64 f,.pointer (some ⟨w.heap.size,0,none⟩),.pointer (some ⟨w.heap.size+1+1+1+1,0,none⟩),.pointer (some ⟨w.heap.size+1,0,none⟩),.pointer (some ⟨w.heap.size+1+1+1+1+1,0,none⟩),.pointer (some ⟨w.heap.size+1+1,0,none⟩)] (wr.alloc (.cells #[.int .i64 f,.slice E to.length d,.string tg] 63))
     (SzRet A0 n0 k0 _ ms.length k1 A2 n2 k2 w.heap.size ms f (wr.alloc (.cells #[.int .i64 f,.slice E to.length d,.string tg] 63)) n mk cyc) from
    SZ.out (2*unmarked (fsM ms) mk+1) f _ n mk cyc lng (by omega) hcd HDI.out (fun x h=>absurd h (HFI.out x)) hMW hbW (by have:=HPO.out;omega))
   clear hMW hBa
   go_wp2_with fail
   with_reducible refine CL.out.mono ?_
   rintro e W ⟨v,n',mk',cyc',lng',rfl,hp⟩
   have hbN:=hbW.trans hp.bel
   have RL:=Lib.hid (show MS A0 n0 k0 _ ms.length k1 A2 n2 k2 w.heap.size W n' mk' cyc' lng'∧DInv (onM ms true) capE mxE mk' cyc' lng'∧(∀x,mk' x≠some (-1))∧n'+200*unmarked (fsM ms) mk'≤200*ms.length∧(∀t,(ht:t < ms.length)→t < i+1→ms[t].to≠[]→∃k,mk' ms[t].frm=some k) from
    ⟨hp.st,hp.inv,fun x=>by
     cases hx:mk x with
     | none=>exact hp.ext.new x hx
     | some k=>intro h;have:=hp.ext.old x k hx;rw [h] at this;injection this with this;subst this;exact HFI.out x hx,
    by have:=hp.pot;have:=HPO.out;omega,HST.out mk' hp.ext (fun hne=>hp.mkd to HO.out hne)⟩)
   clear hp CL p5 q5
   go_wp2_with fail
   go_roundw
   case rel=>exact ⟨i+1,n',mk',cyc',lng',by omega,by go_num,RL.out.1,RL.out.2.1,RL.out.2.2.1,RL.out.2.2.2.1,RL.out.2.2.2.2,hbN⟩
   case measure=>simp [intOf];omega
  ·obtain rfl:i=ms.length:=by omega
   have MO:=Lib.hid (OK.out mk cyc lng HDI.out HFI.out (fun t ht h=>HMD.out t ht ht h))
   have e1:wr.cell? ⟨w.heap.size+1,0,none⟩=some (.bool cyc):=HMS.out.bC.cell rfl
   have e2:wr.cell? ⟨w.heap.size+1+1,0,none⟩=some (.bool lng):=HMS.out.bL.cell rfl
   have e3:wr.frozen? ⟨w.heap.size+1,0,none⟩=false:=HMS.out.bC.free 0
   have e4:wr.frozen? ⟨w.heap.size+1+1,0,none⟩=false:=HMS.out.bL.free 0
   go_wp2_with fail
   go_region
   all_goals
    go_wp2_with fail
    (try simp only [Exit.inBlock,Exit.then])
    refine bodyPost_ret (results_cell2 rfl _ _ _ rfl rfl (load_bool _ _ cyc ?_) (load_bool _ _ lng ?_)) rfl ?_
    ·go_simp
    ·go_simp
    ·exact ⟨cyc,lng,rfl,MO.out,((hb.setCell (by simp) _).setCell (by simp;omega) _).drew⟩
end Go.Proofs.YtijgbonhjcblcaaGreatDoor
