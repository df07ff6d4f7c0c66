/- Texts that are merged into one file: MeasA, MeasB, MeasP, NormCk, FullPlain, RefDec, RefDecB, RefDecC, SetB, StepApp, SetC, RefFull, SkRows. -/
import Derived.Test.YtkhmjidaeliccaaGreatDoorB01
import Derived.Test.YtkhmjidaeliccaaGreatDoorB03
import Derived.Test.YtkhmjidaeliccaaGreatDoorB05
import Derived.Test.YtkhmjidaeliccaaGreatDoorB07
import Derived.Test.YtkhmjidaeliccaaGreatDoorB09
import Derived.Deep.AppendLies
import Derived.Deep.RegionLaw
import Derived.Laws.OwnMore
set_option maxRecDepth 100000
set_option maxHeartbeats 51200000
namespace Go.Proofs.YtkhmjidaeliccaaGreatDoor
open Go.RowKit Go.Maps Go.WideMaps
def KeepD (s:Nat) (w w':World):Prop:=w.heap.size≤w'.heap.size∧∀b,b < w.heap.size→b≠s+1→b≠s+2→b≠s+3→w'.heap[b]?=w.heap[b]?
section
variable {s:Nat} {a b c:World}
theorem KeepD.refl (s:Nat) (a:World):KeepD s a a:=⟨Nat.le_refl _,fun _ _ _ _ _=>rfl⟩
theorem KeepD.trans (h:KeepD s a b) (k:KeepD s b c):KeepD s a c:=⟨Nat.le_trans h.1 k.1,fun q hq h1 h2 h3=>(k.2 q (Nat.lt_of_lt_of_le hq h.1) h1 h2 h3).trans (h.2 q hq h1 h2 h3)⟩
theorem KeepD.of_below (h:Below a.heap.size a b):KeepD s a b:=⟨h.size,fun q hq _ _ _=>h.block q hq⟩
theorem KeepD.of_grown {u:Nat} (h:a.grownBy b (some u)) (hu:u=s+1∨u=s+2∨u=s+3):KeepD s a b:=⟨h.size,fun q hq h1 h2 h3=>h.block q hq (fun e=>by injection e with e;omega)⟩
end
structure MS (A0:Option Addr) (n0 k0:Nat) (A1:Option Addr) (n1 k1:Nat) (A2:Option Addr) (n2 k2:Nat) (s:Nat) (w:World) (n:Nat) (mk:Int→Option Int) (cyc lng:Bool):Prop where
 bN:Box w s 28 [.slice A0 n0 k0,.slice A1 n1 k1,.slice A2 n2 k2]
 bC:Box w (s+1) 4 [.bool cyc]
 bL:Box w (s+2) 4 [.bool lng]
 mp:MapI w (s+3) n (fun c=>(mk c).map (fun k=>.int .i64 k))
 bM:Box w (s+4) 229 [.map (some (s+3))]
 bS:Box w (s+5) 147 [.func (.func 181) #[] #[.pointer (some ⟨s,0,none⟩),.pointer (some ⟨s+4,0,none⟩),.pointer (some ⟨s+1,0,none⟩),.pointer (some ⟨s+5,0,none⟩),.pointer (some ⟨s+2,0,none⟩)]]
section
variable {A0:Option Addr} {n0 k0:Nat} {A1:Option Addr} {n1 k1:Nat} {A2:Option Addr} {n2 k2:Nat} {s:Nat} {w w':World} {n:Nat} {mk:Int→Option Int} {cyc lng:Bool}
theorem MS.below (h:MS A0 n0 k0 A1 n1 k1 A2 n2 k2 s w n mk cyc lng) (hb:Below w.heap.size w w'):MS A0 n0 k0 A1 n1 k1 A2 n2 k2 s w' n mk cyc lng:=
 ⟨h.bN.below hb h.bN.lt,h.bC.below hb h.bC.lt,h.bL.below hb h.bL.lt,h.mp.below hb,h.bM.below hb h.bM.lt,h.bS.below hb h.bS.lt⟩
theorem MS.setC (h:MS A0 n0 k0 A1 n1 k1 A2 n2 k2 s w n mk cyc lng) (x:Bool):MS A0 n0 k0 A1 n1 k1 A2 n2 k2 s (w.setCell ⟨s+1,0,none⟩ (.bool x)) n mk x lng:=by
 have hg:=grown_set w ⟨s+1,0,none⟩ (.bool x)
 exact ⟨h.bN.grown hg (by simp),h.bC.set 0 _,h.bL.grown hg (by simp),h.mp.kept hg (by simp),h.bM.grown hg (by simp),h.bS.grown hg (by simp)⟩
theorem MS.setL (h:MS A0 n0 k0 A1 n1 k1 A2 n2 k2 s w n mk cyc lng) (x:Bool):MS A0 n0 k0 A1 n1 k1 A2 n2 k2 s (w.setCell ⟨s+2,0,none⟩ (.bool x)) n mk cyc x:=by
 have hg:=grown_set w ⟨s+2,0,none⟩ (.bool x)
 exact ⟨h.bN.grown hg (by simp),h.bC.grown hg (by simp),h.bL.set 0 _,h.mp.kept hg (by simp),h.bM.grown hg (by simp),h.bS.grown hg (by simp)⟩
theorem MS.put (h:MS A0 n0 k0 A1 n1 k1 A2 n2 k2 s w n mk cyc lng) {m:Nat} {c k:Int} (hm:MapI w' (s+3) m (fun y=>if y=c then some (.int .i64 k) else (mk y).map (fun k=>.int .i64 k))) (hg:w.grownBy w' (some (s+3))) :
  MS A0 n0 k0 A1 n1 k1 A2 n2 k2 s w' m (putM mk c k) cyc lng:=by
 refine ⟨h.bN.grown hg (by simp),h.bC.grown hg (by simp),h.bL.grown hg (by simp),hm.ext fun x _=>?_,h.bM.grown hg (by simp),h.bS.grown hg (by simp)⟩
 unfold putM
 split <;> rfl
theorem MS.ints (h:MS A0 n0 k0 A1 n1 k1 A2 n2 k2 s w n mk cyc lng) (hk:KeepD s w w') {E:Option Addr} {zs:List Int} (hs:Ints w E zs):Ints w' E zs:=fun hne=>by
 obtain ⟨q,o,rfl,hc⟩:=hs hne
 refine ⟨q,o,rfl,fun j u hu=>?_⟩
 have h1:=hc j u hu
 have hi:∃z,u=.int .i64 z:=by
  rw [List.getElem?_map] at hu
  cases hz:zs[j]? with
  | none=>rw [hz] at hu;cases hu
  | some z=>rw [hz] at hu;injection hu with hu;exact ⟨z,hu.symm⟩
 obtain ⟨z,rfl⟩:=hi
 have flag:∀(B:Nat) (x:Bool),Box w B 4 [.bool x]→q≠B:=fun B x hB e=>by
  subst e
  unfold Box at hB
  generalize o+j=m at h1
  rcases m with _ | m
  ·simp [World.cell?,hB] at h1
  ·simp [World.cell?,hB] at h1
 have hq3:q≠s+3:=fun e=>by rw [e,h.mp.nocell] at h1;cases h1
 exact (World.cell?_of_block (hk.2 q (World.block_lt_of_cell? w _ h1) (flag _ _ h.bC) (flag _ _ h.bL) hq3)).trans h1
end
end Go.Proofs.YtkhmjidaeliccaaGreatDoor
namespace Go.Proofs.YtkhmjidaeliccaaGreatDoor
open Go.RowKit Go.Maps Go.WideMaps
def CodesOk (ms:List Mp):Prop:=∀i,(hi:i < ms.length)→(0≤ms[i].frm∧ms[i].frm≤1114111)∧ms[i].toq.length≤64∧∀e ∈ ms[i].toq,0≤e∧e≤1114111
def hk (c:Int):Nat:=if 4≤Hg.kind c then 1 else 0
def fsM (ms:List Mp):List Int:=ms.map Mp.frm
theorem hk_le (c:Int):hk c≤1:=by unfold hk;split <;> omega
theorem decomp_kids {c:Int} (h:4≤Hg.kind c):(Hg.decomp c).length≤3∧∀e ∈ Hg.decomp c,(0≤e∧e≤1114111)∧hk e=0∧1≤Hg.kind e:=by
 have h5:=(Hg.kind_range c).2
 have k1:∀e:Int,0x1100≤e∧e≤0x1112→(0≤e∧e≤1114111)∧hk e=0∧1≤Hg.kind e:=fun e he=>⟨by omega,by unfold hk;rw [Hg.kind1 he];rfl,by rw [Hg.kind1 he];omega⟩
 have k2:∀e:Int,0x1161≤e∧e≤0x1175→(0≤e∧e≤1114111)∧hk e=0∧1≤Hg.kind e:=fun e he=>⟨by omega,by unfold hk;rw [Hg.kind2 he];rfl,by rw [Hg.kind2 he];omega⟩
 have k3:∀e:Int,0x11A8≤e∧e≤0x11C2→(0≤e∧e≤1114111)∧hk e=0∧1≤Hg.kind e:=fun e he=>⟨by omega,by unfold hk;rw [Hg.kind3 he];rfl,by rw [Hg.kind3 he];omega⟩
 by_cases h4:Hg.kind c=4
 ·obtain ⟨b1,b2,b3⟩:=kind_is4 h4
  rw [decomp_2 h4]
  refine ⟨by simp,fun e he=>?_⟩
  simp only [List.mem_cons,List.not_mem_nil,or_false] at he
  rcases he with rfl | rfl
  ·exact k1 _ (by omega)
  ·exact k2 _ (by omega)
 ·have h4':Hg.kind c=5:=by omega
  obtain ⟨b1,b2,b3⟩:=kind_is5 h4'
  rw [decomp_3 h4']
  refine ⟨by simp,fun e he=>?_⟩
  simp only [List.mem_cons,List.not_mem_nil,or_false] at he
  rcases he with rfl | rfl | rfl
  ·exact k1 _ (by omega)
  ·exact k2 _ (by omega)
  ·exact k3 _ (by omega)
theorem fndM_at {ms:List Mp} {b:Bool} {c:Int} {i:Nat} (h:fndM ms b c=some i):∃hi:i < ms.length,ms[i].frm=c∧(b=true∨ms[i].tag.size=0):=by
 unfold fndM at h
 rw [List.findIdx?_eq_some_iff_getElem] at h
 obtain ⟨hi,h1,_⟩:=h
 exact ⟨hi,by simpa using h1⟩
theorem onM_kids {ms:List Mp} {b:Bool} {c:Int} {toq:List Int} (hc:CodesOk ms) (h:onM ms b c=some toq) :
  toq.length≤64∧(∀e ∈ toq,0≤e∧e≤1114111)∧((hk c=1∧toq.length≤3∧∀e ∈ toq,hk e=0)∨(hk c=0∧c ∈ fsM ms)):=by
 unfold onM at h
 split at h
 ·next h4=>
  injection h with h
  subst h
  obtain ⟨h1,h2⟩:=decomp_kids h4
  exact ⟨by omega,fun e he=>(h2 e he).1,.inl ⟨by unfold hk;rw [if_pos h4],h1,fun e he=>(h2 e he).2.1⟩⟩
 ·next h4=>
  cases hf:fndM ms b c with
  | none=>rw [hf] at h;cases h
  | some i=>
   rw [hf] at h
   injection h with h
   obtain ⟨hi,h1,_⟩:=fndM_at hf
   have ht:toM ms i=ms[i].toq:=by simp [toM,List.getD,hi]
   rw [ht] at h
   subst h
   obtain ⟨q1,q2,q3⟩:=hc i hi
   exact ⟨q2,q3,.inr ⟨by unfold hk;rw [if_neg h4],List.mem_map.2 ⟨ms[i],List.getElem_mem hi,h1⟩⟩⟩
theorem iok_code {c:Int} (h:0≤c∧c≤1114111):iok c:=by
 unfold iok Lit.wf
 simp [IntKind.min,IntKind.max,IntKind.signed,IntKind.bits]
 omega
theorem zero_intM (w:World):(zeroValue 3).run Tryz.prog w=.ok (.int .i64 0) w:=by kernel_rfl
structure SzPost (A0:Option Addr) (n0 k0:Nat) (A1:Option Addr) (n1 k1:Nat) (A2:Option Addr) (n2 k2:Nat) (s:Nat) (ms:List Mp) (c:Int) (w:World) (n:Nat) (mk:Int→Option Int) (cyc:Bool) (v:Int) (w':World) (n':Nat) (mk':Int→Option Int) (cyc' lng':Bool):Prop where
 bd:1≤v∧v≤capE
 ext:DExt mk mk'
 inv:DInv (onM ms true) capE mxE mk' cyc' lng'
 mon:cyc=true→cyc'=true
 sz:cyc'=false→Sz (onM ms true) capE c v
 st:MS A0 n0 k0 A1 n1 k1 A2 n2 k2 s w' n' mk' cyc' lng'
 kp:KeepD s w w'
 bel:Below s w w'
 pot:n'+200*unmarked (fsM ms) mk'≤n+200*unmarked (fsM ms) mk+2*hk c
 mkd:∀toq,onM ms true c=some toq→toq≠[]→∃k,mk' c=some k
end Go.Proofs.YtkhmjidaeliccaaGreatDoor
namespace Go.Proofs.YtkhmjidaeliccaaGreatDoor
open Go.RowKit
def NoHg (ms:List Mp):Prop:=∀i,(hi:i < ms.length)→Hg.kind ms[i].frm=0
structure MeasOk (ms:List Mp) (cyc lng:Bool):Prop where
 cy:cyc=true→∃x,Path (onM ms true) x x
 ends:cyc=false→∀i,(hi:i < ms.length)→∃v,Sz (onM ms true) capE ms[i].frm v
 lg:cyc=false→(lng=true ↔ ∃i,∃hi:i < ms.length,∃v,Sz (onM ms true) capE ms[i].frm v∧mxE < v)
theorem frmM_at {ms:List Mp} {i:Nat} (hi:i < ms.length):frmM ms i=ms[i].frm:=by simp [frmM,List.getD,hi]
theorem toM_at {ms:List Mp} {i:Nat} (hi:i < ms.length):toM ms i=ms[i].toq:=by simp [toM,List.getD,hi]
theorem onM_frm {ms:List Mp} (hs:StF ms) (hh:NoHg ms) (compat:Bool) {i:Nat} (hi:i < ms.length):onM ms compat ms[i].frm=if compat=true∨ms[i].tag.size=0 then some ms[i].toq else none:=by
 unfold onM
 rw [if_neg (by rw [hh i hi];omega),fndM_some hs hi rfl]
 split
 ·rw [Option.map_some,toM_at hi]
 ·rfl
theorem onM_none_kind {ms:List Mp} (hh:NoHg ms) (compat:Bool) {e:Int} (h1:1≤Hg.kind e) (h2:Hg.kind e < 4):onM ms compat e=none:=by
 unfold onM
 rw [if_neg (by omega),fndM_none,Option.map_none]
 intro i hi he
 have:=hh i hi
 rw [he] at this
 omega
theorem capSum_ones (n:Nat) (h:(n:Int)≤capE):capSum capE (List.replicate n 1)=n:=by
 rw [capSum_eq (fun v hv=>by rw [List.eq_of_mem_replicate hv];omega) (by unfold capE;omega)]
 have:∀n:Nat,(List.replicate n (1:Int)).sum=n:=by
  intro n
  induction n with
  | zero=>rfl
  | succ n ih=>rw [List.replicate_succ,List.sum_cons,ih];omega
 rw [this]
 omega
theorem Sz_no {ms:List Mp} (hh:NoHg ms) (compat:Bool) {e:Int} (h:fndM ms compat e=none):Sz (onM ms compat) capE e (dlM e):=by
 by_cases h4:4≤Hg.kind e
 ·obtain ⟨d1,d2⟩:=decomp_kids h4
  have hon:onM ms compat e=some (Hg.decomp e):=if_pos h4
  have hne:Hg.decomp e≠[]:=by
   have h5:=(Hg.kind_range e).2
   by_cases h44:Hg.kind e=4
   ·rw [decomp_2 h44];simp
   ·rw [decomp_3 (by omega)];simp
  have:=Sz.node (on:=onM ms compat) (cap:=capE) (vs:=List.replicate (Hg.decomp e).length 1) hon hne (by simp) (fun i h1 h2=>by
   rw [List.getElem_replicate]
   obtain ⟨_,g2,g3⟩:=d2 _ (List.getElem_mem h1)
   refine .leaf (.inl (onM_none_kind hh compat g3 ?_))
   unfold hk at g2
   split at g2
   ·cases g2
   ·omega)
  rw [capSum_ones _ (by unfold capE;omega)] at this
  exact this
 ·have hd:dlM e=1:=by unfold dlM;rw [decomp_no (by omega)];rfl
  rw [hd]
  refine .leaf (.inl ?_)
  unfold onM
  rw [if_neg h4,h]
  rfl
theorem maps1 {ms:List Mp} (hs:StF ms) (hh:NoHg ms) (compat:Bool):Maps1 ms.length (frmM ms) (toM ms) (fndM ms compat) dlM capE (onM ms compat) (skipM ms compat):=by
 refine ⟨by unfold capE;omega,fun i hi hk=>?_,fun i hi hk=>?_,fun e m h=>?_,fun e h=>Sz_no hh compat h⟩
 ·rw [frmM_at hi,onM_frm hs hh compat hi,toM_at hi,if_pos]
  unfold skipM at hk
  cases compat <;> simp_all [List.getD]
 ·rw [frmM_at hi,onM_frm hs hh compat hi,if_neg]
  unfold skipM at hk
  cases compat <;> simp_all [List.getD]
 ·obtain ⟨hi,h1,_⟩:=fndM_at h
  exact ⟨hi,by rw [frmM_at hi];exact h1⟩
theorem long_frm {ms:List Mp} (hh:NoHg ms) {c v:Int} (h:Sz (onM ms true) capE c v) (hv:mxE < v):∃i,∃hi:i < ms.length,ms[i].frm=c:=by
 cases hf:fndM ms true c with
 | some i=>obtain ⟨hi,h1,_⟩:=fndM_at hf;exact ⟨i,hi,h1⟩
 | none=>
  have h1:=h.func (Sz_no hh true hf)
  subst h1
  exfalso
  unfold dlM mxE at hv
  by_cases h4:4≤Hg.kind c
  ·have:=(decomp_kids h4).1;omega
  ·rw [decomp_no (by omega)] at hv;simp at hv
theorem MeasOk.of {ms:List Mp} {mk:Int→Option Int} {cyc lng:Bool} (hs:StF ms) (hh:NoHg ms) (h:DInv (onM ms true) capE mxE mk cyc lng) (hf:∀x,mk x≠some (-1)) (hm:∀i,(hi:i < ms.length)→ms[i].toq≠[]→∃k,mk ms[i].frm=some k):MeasOk ms cyc lng:=by
 have hon:=fun i (hi:i < ms.length)=>(onM_frm hs hh true hi).trans (if_pos (.inl rfl))
 have hsz:cyc=false→∀i,(hi:i < ms.length)→∃v,Sz (onM ms true) capE ms[i].frm v∧(mk ms[i].frm=some v∨v=1):=fun hc i hi=>by
  by_cases ht:ms[i].toq=[]
  ·exact ⟨1,.leaf (.inr (by rw [hon i hi,ht])),.inr rfl⟩
  ·obtain ⟨k,hk⟩:=hm i hi ht
   exact ⟨k,h.fin hc _ k hk (fun e=>hf _ (by rw [hk,e])),.inl hk⟩
 refine ⟨h.cy,fun hc i hi=>?_,fun hc=>⟨fun hl=>?_,?_⟩⟩
 ·obtain ⟨v,h1,_⟩:=hsz hc i hi;exact ⟨v,h1⟩
 ·obtain ⟨c,k,h1,h2⟩:=h.lg1 hl
  have h3:=h.fin hc c k h1 (by unfold mxE at h2;omega)
  obtain ⟨i,hi,he⟩:=long_frm hh h3 h2
  subst he
  exact ⟨i,hi,k,h3,h2⟩
 ·rintro ⟨i,hi,v,h1,h2⟩
  obtain ⟨v',g1,g2⟩:=hsz hc i hi
  have:=h1.func g1
  subst this
  rcases g2 with g2 | g2
  ·exact h.lg2 _ v g2 h2
  ·unfold mxE at h2;omega
theorem Sz_le {ms:List Mp} (hs:StF ms) {c v:Int} (h:Sz (onM ms true) capE c v):∃u,Sz (onM ms false) capE c u∧u≤v:=by
 have hsub:∀c toq,onM ms false c=some toq→onM ms true c=some toq:=fun c toq h=>by
  unfold onM at h ⊢
  split
  ·next h4=>rw [if_pos h4] at h;exact h
  ·next h4=>
   rw [if_neg h4] at h
   cases hf:fndM ms false c with
   | none=>rw [hf] at h;cases h
   | some i=>
    obtain ⟨hi,h1,_⟩:=fndM_at hf
    rw [hf] at h
    rw [fndM_some hs hi h1,if_pos (.inl rfl)]
    exact h
 have hcap:(1:Int)≤capE:=by unfold capE;omega
 induction h with
 | @leaf c h=>
  refine ⟨1,.leaf ?_,by omega⟩
  cases hf:onM ms false c with
  | none=>exact .inl rfl
  | some toq=>
   right
   rcases h with h | h
   ·rw [hsub c toq hf] at h;cases h
   ·rw [hsub c toq hf] at h;exact h
 | @node c toq vs h1 h2 h3 h4 ih=>
  cases hf:onM ms false c with
  | none=>exact ⟨1,.leaf (.inl hf),(Sz.bd hcap (Sz.node h1 h2 h3 h4)).1⟩
  | some to'=>
   have:=hsub c to' hf
   rw [h1] at this
   injection this with this
   subst this
   have hch:∀i:Nat,∃u:Int,∀(hi:i < toq.length) (hv:i < vs.length),Sz (onM ms false) capE toq[i] u∧u≤vs[i]:=fun i=>by
    by_cases hi:i < toq.length
    ·obtain ⟨u,g1,g2⟩:=ih i hi (by omega)
     exact ⟨u,fun _ _=>⟨g1,g2⟩⟩
    ·exact ⟨0,fun h=>absurd h hi⟩
   refine ⟨capSum capE ((List.range toq.length).map (fun i=>(hch i).choose)),.node hf h2 (by simp) (fun i h1 h2=>?_),?_⟩
   ·simp only [List.getElem_map,List.getElem_range]
    exact ((hch i).choose_spec h1 (by omega)).1
   ·have hmono:∀(a b:List Int),a.length=b.length→(∀i,(h1:i < a.length)→(h2:i < b.length)→a[i]≤b[i])→∀s t:Int,s≤t→a.foldl (fun s v=>min (s+v) capE) s≤b.foldl (fun s v=>min (s+v) capE) t:=by
     intro a
     induction a with
     | nil=>intro b hl _ s t hst;cases b with | nil=>exact hst | cons _ _=>simp at hl
     | cons x a iha=>
      intro b hl hle s t hst
      cases b with
      | nil=>simp at hl
      | cons y b=>
       have h0:=hle 0 (by simp) (by simp)
       simp only [List.getElem_cons_zero] at h0
       refine iha b (by simpa using hl) (fun i g1 g2=>?_) _ _ (by dsimp only;omega)
       have:=hle (i+1) (by simp;omega) (by simp;omega)
       simpa using this
    refine hmono _ _ (by simp [h3]) (fun i g1 g2=>?_) 0 0 (by omega)
    simp only [List.getElem_map,List.getElem_range]
    simp at g1
    exact ((hch i).choose_spec g1 g2).2
end Go.Proofs.YtkhmjidaeliccaaGreatDoor
namespace Go.Proofs.YtkhmjidaeliccaaGreatDoor
open Go.RowKit
def stB (ms:List Mp):Bool:=(List.range (ms.length - 1)).all fun i=>decide (frmM ms i < frmM ms (i+1))
def kindB (m:Mp):Bool:=decide (m.tag.size=0)&&(decide (¬m.toq.length=1)&&decide (¬m.toq.length=2))
def datB (ss:List Spn) (m:Mp):Bool:=decide (¬Hg.kind m.frm=0) || (decide (¬m.tag.size=0)&&decide (¬clz ss m.frm=0))
def endB (ms:List Mp):Bool:=(rnds ms.length (toM ms) (fndM ms true) ms.length).all id
def lnds (ms:List Mp) (compat:Bool):Nat→List Int
 | 0=>List.replicate ms.length 0
 | r+1=>(List.range ms.length).foldl (lenStep (toM ms) (fndM ms compat) dlM capE (skipM ms compat)) (lnds ms compat r)
def lensM (ms:List Mp) (compat:Bool):List Int:=lnds ms compat ms.length
def longB (ms:List Mp):Bool:=(List.range ms.length).any fun i=>decide (64 < (lensM ms false).getD i 0) || decide (64 < (lensM ms true).getD i 0)
def nErr (x:Nrm):Int:=
 if ¬chk x.cls=0 then chk x.cls else if ¬mapErr x.dec=0 then mapErr x.dec else if setOk x.exc=false then 11 else if stB x.dec=false then 5
 else if x.dec.any kindB=true then 8 else if x.dec.any (datB x.cls)=true then 11 else if endB x.dec=false then 12 else if longB x.dec=true then 13 else 0
structure Ck3 (x:Nrm):Prop where
 c:chk x.cls=0
 m:mapErr x.dec=0
 s:setOk x.exc=true
structure Ck4 (x:Nrm):Prop extends Ck3 x where
 t:stB x.dec=true
structure Ck5 (x:Nrm):Prop extends Ck4 x where
 k:x.dec.any kindB=false
structure Ck6 (x:Nrm):Prop extends Ck5 x where
 d:x.dec.any (datB x.cls)=false
section
variable {x:Nrm}
theorem nErr_c (h:¬chk x.cls=0):nErr x=chk x.cls:=by unfold nErr;rw [if_pos h]
theorem nErr_m (h:chk x.cls=0) (h2:¬mapErr x.dec=0):nErr x=mapErr x.dec:=by unfold nErr;rw [if_neg (by simpa using h),if_pos h2]
theorem nErr_s (h:chk x.cls=0) (h2:mapErr x.dec=0) (h3:setOk x.exc=false):nErr x=11:=by unfold nErr;rw [if_neg (by simpa using h),if_neg (by simpa using h2),if_pos h3]
theorem Ck3.rest (h:Ck3 x):nErr x=if stB x.dec=false then 5
 else if x.dec.any kindB=true then 8 else if x.dec.any (datB x.cls)=true then 11 else if endB x.dec=false then 12 else if longB x.dec=true then 13 else 0:=by
 unfold nErr;rw [if_neg (by simpa using h.c),if_neg (by simpa using h.m),if_neg (by simp [h.s])]
theorem Ck3.twice (h:Ck3 x) (h2:stB x.dec=false):nErr x=5:=by rw [h.rest,if_pos h2]
theorem Ck4.rest (h:Ck4 x):nErr x=if x.dec.any kindB=true then 8 else if x.dec.any (datB x.cls)=true then 11 else if endB x.dec=false then 12 else if longB x.dec=true then 13 else 0:=by
 rw [h.toCk3.rest,if_neg (by simp [h.t])]
theorem Ck4.kind (h:Ck4 x) (h2:x.dec.any kindB=true):nErr x=8:=by rw [h.rest,if_pos h2]
theorem Ck5.rest (h:Ck5 x):nErr x=if x.dec.any (datB x.cls)=true then 11 else if endB x.dec=false then 12 else if longB x.dec=true then 13 else 0:=by
 rw [h.toCk4.rest,if_neg (by simp [h.k])]
theorem Ck5.data (h:Ck5 x) (h2:x.dec.any (datB x.cls)=true):nErr x=11:=by rw [h.rest,if_pos h2]
theorem Ck6.rest (h:Ck6 x):nErr x=if endB x.dec=false then 12 else if longB x.dec=true then 13 else 0:=by
 rw [h.toCk5.rest,if_neg (by simp [h.d])]
theorem nErr_ck6 (h:nErr x=0):Ck6 x∧endB x.dec=true∧longB x.dec=false:=by
 by_cases h1:chk x.cls=0
 ·by_cases h2:mapErr x.dec=0
  ·cases h3:setOk x.exc with
   | false=>rw [nErr_s h1 h2 h3] at h;omega
   | true=>
    have c3:Ck3 x:=⟨h1,h2,h3⟩
    cases h4:stB x.dec with
    | false=>rw [c3.twice h4] at h;omega
    | true=>
     have c4:Ck4 x:=⟨c3,h4⟩
     cases h5:x.dec.any kindB with
     | true=>rw [c4.kind h5] at h;omega
     | false=>
      have c5:Ck5 x:=⟨c4,h5⟩
      cases h6:x.dec.any (datB x.cls) with
      | true=>rw [c5.data h6] at h;omega
      | false=>
       have c6:Ck6 x:=⟨c5,h6⟩
       rw [c6.rest] at h
       cases h7:endB x.dec with
       | false=>rw [h7] at h;simp at h
       | true=>
        cases h8:longB x.dec with
        | true=>rw [h7,h8] at h;simp at h
        | false=>exact ⟨c6,rfl,rfl⟩
  ·rw [nErr_m h1 h2] at h;exact absurd h h2
 ·rw [nErr_c h1] at h;exact absurd h h1
end
theorem partsErr_ok {ms:List Mp} (h:mapErr ms=0):partsErr ms=0:=by
 unfold mapErr at h
 by_cases hp:partsErr ms=0
 ·exact hp
 ·rw [if_pos hp] at h;exact h
theorem mapErr_asc {ms:List Mp} (h:mapErr ms=0):ascM ms=true:=by
 have hp:=partsErr_ok h
 unfold mapErr at h
 rw [if_neg (by simp [hp])] at h
 cases ha:ascM ms with
 | true=>rfl
 | false=>rw [ha] at h;by_cases hn:(ms.map keyM).Nodup <;> simp [hn] at h
theorem mapErr_codes {ms:List Mp} (h:mapErr ms=0):CodesOk ms:=by
 intro i hi
 have hm:=List.getElem_mem hi
 have hp:=partsErr_ok h
 unfold partsErr at hp
 cases h1:ms.any mpBad with
 | true=>rw [h1] at hp;simp at hp
 | false=>
  cases h2:ms.any (fun m=>decide (64 < m.toq.length)) with
  | true=>rw [h1,h2] at hp;simp at hp
  | false=>
   have a:=List.any_eq_false.1 h1 _ hm
   have b:=List.any_eq_false.1 h2 _ hm
   unfold mpBad inR at a
   simp only [Bool.or_eq_true,not_or,Bool.not_eq_true',decide_eq_true_eq,List.any_eq_true,not_exists,not_and] at a b
   obtain ⟨a1,a2⟩:=a
   refine ⟨by simpa using a1,by omega,fun e he=>by simpa using a2 e he⟩
theorem ascM_le:∀{ms:List Mp},ascM ms=true→∀i,(hi:i+1 < ms.length)→ms[i].frm≤ms[i+1].frm
 | [],_,i,hi=>by simp at hi
 | [_],_,i,hi=>by simp at hi
 | a::b::r,h,i,hi=>by
  simp only [ascM,Bool.and_eq_true,decide_eq_true_eq] at h
  cases i with
  | zero=>
   simp only [List.getElem_cons_zero,List.getElem_cons_succ]
   have h1:=h.1
   unfold cmpM at h1
   split at h1
   ·omega
   ·split at h1
    ·omega
    ·omega
  | succ i=>
   have:=ascM_le h.2 i (by simpa using hi)
   simpa using this
theorem stB_of {ms:List Mp} (h:mapErr ms=0) (hne:∀k,(hk:k+1 < ms.length)→¬ms[k+1].frm=ms[k].frm):stB ms=true:=by
 unfold stB
 rw [List.all_eq_true]
 intro i hi
 have hi':=List.mem_range.1 hi
 have h1:i+1 < ms.length:=by omega
 have:=ascM_le (mapErr_asc h) i h1
 have:=hne i h1
 rw [decide_eq_true_eq,frmM_at (by omega),frmM_at h1]
 omega
theorem StF_of {ms:List Mp} (h:stB ms=true):StF ms:=by
 have h1:∀i,(hi:i+1 < ms.length)→ms[i].frm < ms[i+1].frm:=fun i hi=>by
  unfold stB at h
  have:=List.all_eq_true.1 h i (List.mem_range.2 (by omega))
  rwa [decide_eq_true_eq,frmM_at (by omega),frmM_at hi] at this
 have h2:∀d i,(hi:i+d+1 < ms.length)→ms[i].frm < ms[i+d+1].frm:=by
  intro d
  induction d with
  | zero=>intro i hi;exact h1 i hi
  | succ d ih=>
   intro i hi
   have a:=ih i (by omega)
   have b:=h1 (i+d+1) (by omega)
   have:i+(d+1)+1=i+d+1+1:=by omega
   simp only [this]
   omega
 intro i j hi hj hij
 obtain ⟨d,rfl⟩:∃d,j=i+d+1:=⟨j - i - 1,by omega⟩
 exact h2 d i hj
theorem stB_no {ms:List Mp} {k j:Nat} (hk:k < ms.length) (hj:j < ms.length) (hne:k < j) (h:ms[j].frm=ms[k].frm):stB ms=false:=by
 cases e:stB ms with
 | false=>rfl
 | true=>have:=StF_of e k j hk hj hne;omega
theorem NoHg_of {ss:List Spn} {ms:List Mp} (h:ms.any (datB ss)=false):NoHg ms:=fun i hi=>by
 have:=List.any_eq_false.1 h _ (List.getElem_mem hi)
 unfold datB at this
 simp at this
 exact this.1
theorem iter_flat {α:Type} (f:α→Nat→α) (n:Nat) (g:Nat→α) (hg:∀r,g (r+1)=(List.range n).foldl f (g r)) (r:Nat):((List.replicate r (List.range n)).flatten).foldl f (g 0)=g r:=by
 induction r with
 | zero=>rfl
 | succ r ih=>rw [List.replicate_succ',List.flatten_append,List.foldl_append,ih,hg];simp
theorem fndM_sub {ms:List Mp} (hs:StF ms) (compat:Bool):∀e m,fndM ms compat e=some m→fndM ms true e=some m:=fun e m h=>by
 obtain ⟨hi,h1,_⟩:=fndM_at h
 rw [fndM_some hs hi h1,if_pos (.inl rfl)]
theorem lensM_ok {ms:List Mp} (hs:StF ms) (hh:NoHg ms) (he:endB ms=true) (compat:Bool):∀i,(hi:i < ms.length)→Sz (onM ms compat) capE ms[i].frm ((lensM ms compat).getD i 0):=by
 intro i hi
 have hfl:∀j ∈ (List.replicate ms.length (List.range ms.length)).flatten,j < ms.length:=fun j hj=>by
  obtain ⟨l,h1,h2⟩:=List.mem_flatten.1 hj
  rw [List.eq_of_mem_replicate h1] at h2
  exact List.mem_range.1 h2
 have h0:=rounds_sound (maps1 hs hh compat) (fndM_sub hs compat) (List.replicate ms.length (List.range ms.length)).flatten hfl i hi
 have e1:=iter_flat (endStep (toM ms) (fndM ms true)) ms.length (rnds ms.length (toM ms) (fndM ms true)) (fun _=>rfl) ms.length
 have e2:=iter_flat (lenStep (toM ms) (fndM ms compat) dlM capE (skipM ms compat)) ms.length (lnds ms compat) (fun _=>rfl) ms.length
 simp only [rnds,lnds] at e1 e2
 rw [e1,e2] at h0
 have hl:=(rnds_ok ms.length (toM ms) (fndM ms true) ms.length).1
 have:(rnds ms.length (toM ms) (fndM ms true) ms.length).getD i false=true:=by
  unfold endB at he
  have hi':i < (rnds ms.length (toM ms) (fndM ms true) ms.length).length:=by rw [hl];exact hi
  have:=List.all_eq_true.1 he _ (List.getElem_mem hi')
  simpa [List.getD,hi'] using this
 obtain ⟨v,h1,h2⟩:=h0 this
 rw [frmM_at hi] at h1
 unfold lensM
 rw [h2]
 exact h1
theorem endB_of {ms:List Mp} (hs:StF ms) (hh:NoHg ms) (h:∀i,(hi:i < ms.length)→∃v,Sz (onM ms true) capE ms[i].frm v):endB ms=true:=by
 unfold endB
 rw [List.all_eq_true]
 intro b hb
 obtain ⟨i,hi,rfl⟩:=List.getElem_of_mem hb
 have hl:=(rnds_ok ms.length (toM ms) (fndM ms true) ms.length).1
 have hi':i < ms.length:=by rw [hl] at hi;exact hi
 have:=rnds_all (n:=ms.length) (toq:=toM ms) (fnd:=fndM ms true) (frm:=frmM ms) (on:=onM ms true) (cap:=capE) (fun i hi=>by rw [frmM_at hi,onM_frm hs hh true hi,if_pos (.inl rfl),toM_at hi]) (maps1 hs hh true).fd (fun i hi=>by rw [frmM_at hi];exact h i hi) i hi'
 simpa [List.getD,hi] using this
theorem Sz_all {ms:List Mp} (hs:StF ms) (hh:NoHg ms) (he:endB ms=true) (x:Int):∃v,Sz (onM ms true) capE x v:=by
 cases hf:fndM ms true x with
 | none=>exact ⟨_,Sz_no hh true hf⟩
 | some i=>
  obtain ⟨hi,h1,_⟩:=fndM_at hf
  subst h1
  exact ⟨_,lensM_ok hs hh he true i hi⟩
theorem MeasOk.cyc {ms:List Mp} {cyc lng:Bool} (h:MeasOk ms cyc lng) (hs:StF ms) (hh:NoHg ms):cyc=!endB ms:=by
 cases hc:cyc with
 | false=>rw [endB_of hs hh (h.ends hc)];rfl
 | true=>
  cases he:endB ms with
  | false=>rfl
  | true=>
   obtain ⟨x,hp⟩:=h.cy hc
   obtain ⟨v,hv⟩:=Sz_all hs hh he x
   exact absurd hp hv.noway
theorem MeasOk.lng {ms:List Mp} {cyc lng:Bool} (h:MeasOk ms cyc lng) (hs:StF ms) (hh:NoHg ms) (he:endB ms=true):lng=longB ms:=by
 have hc:cyc=false:=by rw [h.cyc hs hh,he];rfl
 rw [Bool.eq_iff_iff,h.lg hc]
 unfold longB
 rw [List.any_eq_true]
 constructor
 ·rintro ⟨i,hi,v,h1,h2⟩
  refine ⟨i,List.mem_range.2 hi,?_⟩
  have:=h1.func (lensM_ok hs hh he true i hi)
  rw [←this]
  unfold mxE at h2
  simp [h2]
 ·rintro ⟨i,hi,h1⟩
  have hi':=List.mem_range.1 hi
  have ht:=lensM_ok hs hh he true i hi'
  refine ⟨i,hi',_,ht,?_⟩
  rw [Bool.or_eq_true,decide_eq_true_eq,decide_eq_true_eq] at h1
  rcases h1 with h1 | h1
  ·obtain ⟨u,g1,g2⟩:=Sz_le hs ht
   have:=g1.func (lensM_ok hs hh he false i hi')
   unfold mxE
   omega
  ·exact h1
theorem rns_none (cl:Int→Int):∀(l:List Int) (i:Nat),(∀c ∈ l,cl c=0)→rns cl l i none=[]
 | [],_,_=>rfl
 | c::l,i,h=>by
  have h1:=h c (by simp)
  have:=rns_none cl l (i+1) (fun c hc=>h c (by simp [hc]))
  simp [rns,h1,this]
theorem rns_some (cl:Int→Int):∀(l:List Int) (i s:Nat),rns cl l i (some s)≠[]
 | [],_,_=>by simp [rns]
 | c::l,i,s=>by
  have h1:=rns_some cl l (i+1) s
  simp only [rns]
  split
  ·simp
  ·exact h1
theorem rns_ne (cl:Int→Int):∀(l:List Int) (i:Nat),rns cl l i none=[]→∀c ∈ l,cl c=0
 | [],_,_,_,h=>by cases h
 | c::l,i,hr,d,hd=>by
  simp only [rns] at hr
  split at hr
  ·next h0=>
   rcases List.mem_cons.1 hd with rfl | hd
   ·exact h0
   ·exact rns_ne cl l (i+1) hr d hd
  ·exact absurd hr (rns_some cl l (i+1) i)
def taggedM (ms:List Mp):List Int:=(ms.filter (fun m=>decide (¬m.tag.size=0))).map Mp.frm
theorem datB_of {ss:List Spn} {ms:List Mp} (hh:∀t,(ht:t < ms.length)→Hg.kind ms[t].frm=0) (hr:rns (clz ss) (taggedM ms) 0 none=[]):ms.any (datB ss)=false:=by
 rw [List.any_eq_false]
 intro m hm
 obtain ⟨i,hi,rfl⟩:=List.getElem_of_mem hm
 unfold datB
 by_cases ht:ms[i].tag.size=0
 ·simp [hh i hi,ht]
 ·have:=rns_ne _ _ _ hr ms[i].frm (List.mem_map.2 ⟨ms[i],List.mem_filter.2 ⟨hm,by simpa using ht⟩,rfl⟩)
  simp [hh i hi,this]
theorem datB_yes {ss:List Spn} {ms:List Mp} (hr:¬rns (clz ss) (taggedM ms) 0 none=[]):ms.any (datB ss)=true:=by
 cases h:ms.any (datB ss) with
 | true=>rfl
 | false=>
  refine absurd (rns_none _ _ _ fun c hc=>?_) hr
  obtain ⟨m,hm,rfl⟩:=List.mem_map.1 hc
  obtain ⟨h1,h2⟩:=List.mem_filter.1 hm
  have:=List.any_eq_false.1 h m h1
  unfold datB at this
  simp at this h2
  exact this.2 h2
theorem datB_kind {ss:List Spn} {ms:List Mp} {t:Nat} (ht:t < ms.length) (h:¬Hg.kind ms[t].frm=0):ms.any (datB ss)=true:=List.any_eq_true.2 ⟨_,List.getElem_mem ht,by unfold datB;simp [h]⟩
theorem taggedM_take {ms:List Mp} {i:Nat} (hi:i < ms.length):taggedM (ms.take (i+1))=taggedM (ms.take i)++if ms[i].tag.size=0 then [] else [ms[i].frm]:=by
 unfold taggedM
 rw [List.take_succ_eq_append_getElem hi,List.filter_append,List.map_append]
 congr 1
 by_cases h:ms[i].tag.size=0
 ·rw [if_pos h,List.filter_cons_of_neg (by rw [decide_eq_true_eq];exact fun g=>g h)];rfl
 ·rw [if_neg h,List.filter_cons_of_pos (by rw [decide_eq_true_eq];exact h)];rfl
theorem taggedM_len (ms:List Mp):(taggedM ms).length≤ms.length:=by unfold taggedM;rw [List.length_map];exact List.length_filter_le _ _
end Go.Proofs.YtkhmjidaeliccaaGreatDoor
namespace Go.Proofs.YtkhmjidaeliccaaGreatDoor
open Go.RowKit
section
variable (on:Int→Option (List Int))
inductive Full:Int→List Int→Prop
 | leaf {c:Int}:on c=none→Full c [c]
 | node {c:Int} {toq:List Int} {vs:List (List Int)}:on c=some toq→vs.length=toq.length→(∀i,(hi:i < toq.length)→(hv:i < vs.length)→Full toq[i] vs[i])→Full c vs.flatten
end
section
variable {on:Int→Option (List Int)} {cap:Int}
theorem Full.func {c:Int} {l:List Int} (h:Full on c l):∀{l'},Full on c l'→l=l':=by
 induction h with
 | leaf h=>
  intro l' h'
  cases h' with
  | leaf _=>rfl
  | node h1 _ _=>rw [h] at h1;cases h1
 | node h1 h2 _ ih=>
  intro l' h'
  cases h' with
  | leaf h=>rw [h] at h1;cases h1
  | @node _ to' vs' g1 g2 g3=>
   rw [h1] at g1
   injection g1 with g1
   subst g1
   congr 1
   refine List.ext_getElem (by omega) fun i hi hi'=>?_
   exact ih i (by omega) hi (g3 i (by omega) hi')
theorem Full.done {c:Int} {l:List Int} (h:Full on c l):∀e ∈ l,on e=none:=by
 induction h with
 | leaf h=>intro e he;simp at he;subst he;exact h
 | node h1 h2 _ ih=>
  intro e he
  obtain ⟨v,hv,he⟩:=List.mem_flatten.1 he
  obtain ⟨i,hi,rfl⟩:=List.getElem_of_mem hv
  exact ih i (by omega) hi e he
theorem Sz.full {c v:Int} (h:Sz on cap c v) (hcap:1≤cap):∃l,Full on c l∧(v < cap→(l.length:Int)≤v):=by
 induction h with
 | @leaf c h=>
  rcases h with h | h
  ·exact ⟨[c],.leaf h,fun _=>by simp⟩
  ·exact ⟨[],by simpa using Full.node (vs:=[]) h rfl (fun i hi=>by simp at hi),fun _=>by simp⟩
 | @node c toq vs h1 h2 h3 h4 ih=>
  have hch:∀i:Nat,∃l:List Int,∀(hi:i < toq.length) (hv:i < vs.length),Full on toq[i] l∧(vs[i] < cap→(l.length:Int)≤vs[i]):=fun i=>by
   by_cases hi:i < toq.length
   ·obtain ⟨l,g1,g2⟩:=ih i hi (by omega)
    exact ⟨l,fun _ _=>⟨g1,g2⟩⟩
   ·exact ⟨[],fun h=>absurd h hi⟩
  refine ⟨((List.range toq.length).map (fun i=>(hch i).choose)).flatten,.node h1 (by simp) (fun i h1 h2=>?_),fun hv=>?_⟩
  ·simp only [List.getElem_map,List.getElem_range]
   exact ((hch i).choose_spec h1 (by omega)).1
  ·have hpos:∀v ∈ vs,0≤v:=fun v hv=>by
    obtain ⟨i,hi,rfl⟩:=List.getElem_of_mem hv
    have:=(h4 i (by omega) hi).bd hcap
    omega
   rw [capSum_eq hpos (by omega)] at hv ⊢
   have hs:vs.sum < cap:=by omega
   have key:∀(ls:List (List Int)) (vs:List Int),ls.length=vs.length→(∀v ∈ vs,0≤v)→vs.sum < cap→(∀i,(h1:i < ls.length)→(h2:i < vs.length)→vs[i] < cap→(ls[i].length:Int)≤vs[i])→(ls.flatten.length:Int)≤vs.sum:=by
    intro ls
    induction ls with
    | nil=>intro vs hl _ _ _;cases vs with | nil=>simp | cons _ _=>simp at hl
    | cons l ls ihl=>
     intro vs hl hp hs hle
     cases vs with
     | nil=>simp at hl
     | cons v vs=>
      rw [List.sum_cons] at hs
      have hq:0≤vs.sum:=sum_nonneg (fun v hv=>hp v (by simp [hv]))
      have h0:=hle 0 (by simp) (by simp) (by simp only [List.getElem_cons_zero];omega)
      simp only [List.getElem_cons_zero] at h0
      have hv0:=hp v (by simp)
      have h1:=ihl vs (by simpa using hl) (fun v hv=>hp v (by simp [hv])) (by omega) (fun i g1 g2 g3=>by
       have:=hle (i+1) (by simp;omega) (by simp;omega)
       simp only [List.getElem_cons_succ] at this
       exact this g3)
      rw [List.flatten_cons,List.length_append,List.sum_cons]
      omega
   have:=key ((List.range toq.length).map (fun i=>(hch i).choose)) vs (by simp [h3]) hpos hs (fun i g1 g2 g3=>by
    simp only [List.getElem_map,List.getElem_range]
    simp at g1
    exact ((hch i).choose_spec g1 g2).2 g3)
   omega
end
def replE (fnd:Int→Option Nat) (T:List (List Int)) (e:Int):List Int:=match fnd e with | none=>Hg.decomp e | some m=>T.getD m []
def replL (fnd:Int→Option Nat) (T:List (List Int)) (text:List Int):List Int:=text.flatMap (replE fnd T)
def tabStep (toq:Nat→List Int) (fnd:Int→Option Nat) (skip:Nat→Bool) (T:List (List Int)) (i:Nat):List (List Int):=if skip i=true then T else T.set i (replL fnd T (toq i))
def tabR (toq:Nat→List Int) (fnd:Int→Option Nat) (skip:Nat→Bool) (n:Nat):Nat→List (List Int)
 | 0=>List.replicate n []
 | r+1=>(List.range n).foldl (tabStep toq fnd skip) (tabR toq fnd skip n r)
section
variable {n:Nat} {frm:Nat→Int} {toq:Nat→List Int} {fnd fnd':Int→Option Nat} {on:Int→Option (List Int)} {skip:Nat→Bool}
theorem tabStep_len (T:List (List Int)) (i:Nat):(tabStep toq fnd skip T i).length=T.length:=by unfold tabStep;split <;> simp
theorem tabFold_len (s:List Nat):∀T:List (List Int),(s.foldl (tabStep toq fnd skip) T).length=T.length:=by
 induction s with
 | nil=>intro T;rfl
 | cons x s ih=>intro T;exact (ih _).trans (tabStep_len T x)
structure MapsF (n:Nat) (frm:Nat→Int) (toq:Nat→List Int) (fnd:Int→Option Nat) (on:Int→Option (List Int)) (skip:Nat→Bool):Prop where
 at_:∀i,i < n→skip i=false→on (frm i)=some (toq i)
 fd:∀e m,fnd e=some m→m < n∧frm m=e∧skip m=false
 no:∀e,fnd e=none→Full on e (Hg.decomp e)
theorem flatten_map {l:List Int} {f:Int→List Int}:(l.map f).flatten=l.flatMap f:=by rw [List.flatMap_def]
theorem tab_sound (M:MapsF n frm toq fnd on skip) (hsub:∀e m,fnd e=some m→fnd' e=some m) (s:List Nat) (hs:∀i ∈ s,i < n) :
  ∀i,i < n→skip i=false→(s.foldl (endStep toq fnd') (List.replicate n false)).getD i false=true→Full on (frm i) ((s.foldl (tabStep toq fnd skip) (List.replicate n [])).getD i []):=by
 have hlenE:∀s:List Nat,(s.foldl (endStep toq fnd') (List.replicate n false)).length=n:=by
  intro s
  have:∀(s:List Nat) (T:List Bool),T.length=n→(s.foldl (endStep toq fnd') T).length=n:=by
   intro s
   induction s with
   | nil=>intro T h;exact h
   | cons x s ih=>intro T h;exact ih _ (by simp [endStep,h])
  exact this s _ (by simp)
 have key:∀k (s:List Nat),s.length=k→(∀i ∈ s,i < n)→∀i,i < n→skip i=false→(s.foldl (endStep toq fnd') (List.replicate n false)).getD i false=true→Full on (frm i) ((s.foldl (tabStep toq fnd skip) (List.replicate n [])).getD i []):=by
  intro k
  induction k with
  | zero=>
   intro s hk _ i hi _ h
   have:s=[]:=List.eq_nil_of_length_eq_zero hk
   subst this
   simp [List.getD,hi] at h
  | succ k ih=>
   intro s hk hs i hi hsk h
   obtain ⟨s',x,rfl⟩:∃s' x,s=s'++[x]:=⟨s.dropLast,s.getLast (by rintro rfl;simp at hk),(List.dropLast_concat_getLast _).symm⟩
   have hs':∀i ∈ s',i < n:=fun j hj=>hs j (by simp [hj])
   have hx:x < n:=hs x (by simp)
   have IH:=ih s' (by simpa using hk) hs'
   rw [List.foldl_append] at h ⊢
   simp only [List.foldl_cons,List.foldl_nil] at h ⊢
   have l1:=hlenE s'
   have l2:(s'.foldl (tabStep toq fnd skip) (List.replicate n [])).length=n:=by rw [tabFold_len];simp
   generalize s'.foldl (endStep toq fnd') (List.replicate n false)=T at *
   generalize s'.foldl (tabStep toq fnd skip) (List.replicate n [])=L at *
   by_cases e:x=i
   ·subst e
    have hT:endE toq fnd' T x=true:=by
     simpa [endStep,List.getD,l1,hi] using h
    have hL:(tabStep toq fnd skip L x).getD x []=replL fnd L (toq x):=by
     unfold tabStep
     rw [if_neg (by rw [hsk];simp)]
     simp [List.getD,l2,hi]
    rw [hL]
    have hch:∀e ∈ toq x,Full on e (replE fnd L e):=fun e he=>by
     unfold replE
     cases hf:fnd e with
     | none=>exact M.no e hf
     | some m=>
      obtain ⟨hm,hfm,hkm⟩:=M.fd e m hf
      have:=List.all_eq_true.1 hT e he
      rw [hsub e m hf] at this
      have h1:=IH m hm hkm this
      rw [hfm] at h1
      exact h1
    unfold replL
    rw [←flatten_map]
    refine .node (M.at_ x hi hsk) (by simp) (fun j hj hv=>?_)
    simp only [List.getElem_map]
    exact hch _ (List.getElem_mem hj)
   ·have hT:T.getD i false=true:=by
     simpa [endStep,List.getD,List.getElem?_set,e] using h
    have h1:=IH i hi hsk hT
    have:(tabStep toq fnd skip L x).getD i []=L.getD i []:=by
     unfold tabStep
     split
     ·rfl
     ·simp [List.getD,e]
    rw [this]
    exact h1
 exact key s.length s rfl hs
theorem tab_le (M:MapsF n frm toq fnd on skip) (s:List Nat) (hs:∀i ∈ s,i < n):∀(T:List (List Int)),T.length=n→(∀i l,i < n→skip i=false→Full on (frm i) l→(T.getD i []).length≤l.length)→
  ∀i l,i < n→skip i=false→Full on (frm i) l→((s.foldl (tabStep toq fnd skip) T).getD i []).length≤l.length:=by
 induction s with
 | nil=>intro T _ h;exact h
 | cons x s ih=>
  intro T hl h
  rw [List.foldl_cons]
  refine ih (fun i hi=>hs i (by simp [hi])) _ (by rw [tabStep_len,hl]) (fun i l hi hsk hf=>?_)
  have hx:=hs x (by simp)
  by_cases e:x=i
  ·subst e
   have hL:(tabStep toq fnd skip T x).getD x []=replL fnd T (toq x):=by
    unfold tabStep
    rw [if_neg (by rw [hsk];simp)]
    simp [List.getD,hl,hi]
   rw [hL]
   cases hf with
   | leaf g=>rw [M.at_ x hi hsk] at g;cases g
   | @node _ to' vs g1 g2 g3=>
    rw [M.at_ x hi hsk] at g1
    injection g1 with g1
    subst g1
    have key:∀(toq:List Int) (vs:List (List Int)),vs.length=toq.length→(∀i,(hi:i < toq.length)→(hv:i < vs.length)→Full on toq[i] vs[i])→(replL fnd T toq).length≤vs.flatten.length:=by
     intro toq
     induction toq with
     | nil=>intro vs _ _;simp [replL]
     | cons e toq iht=>
      intro vs hvl hv
      cases vs with
      | nil=>simp at hvl
      | cons v vs=>
       have h1:=iht vs (by simpa using hvl) (fun i g1 g2=>by have:=hv (i+1) (by simp;omega) (by simp;omega);simpa using this)
       have h0:=hv 0 (by simp) (by simp)
       simp only [List.getElem_cons_zero] at h0
       have h2:(replE fnd T e).length≤v.length:=by
        unfold replE
        cases hfe:fnd e with
        | none=>rw [(M.no e hfe).func h0];exact Nat.le_refl _
        | some m=>
         obtain ⟨hm,hfm,hkm⟩:=M.fd e m hfe
         exact h m v hm hkm (by rw [hfm];exact h0)
       unfold replL at h1 ⊢
       rw [List.flatMap_cons,List.length_append,List.flatten_cons,List.length_append]
       omega
    exact key _ _ g2 g3
  ·have:(tabStep toq fnd skip T x).getD i []=T.getD i []:=by
    unfold tabStep
    split
    ·rfl
    ·simp [List.getD,e]
   rw [this]
   exact h i l hi hsk hf
end
def tabM (ms:List Mp) (compat:Bool):List (List Int):=tabR (toM ms) (fndM ms compat) (skipM ms compat) ms.length ms.length
def dcM (ms:List Mp) (compat:Bool) (c:Int):List Int:=replE (fndM ms compat) (tabM ms compat) c
section
variable {ms:List Mp}
theorem Full_no (hh:NoHg ms) (compat:Bool) {e:Int} (h:fndM ms compat e=none):Full (onM ms compat) e (Hg.decomp e):=by
 by_cases h4:4≤Hg.kind e
 ·obtain ⟨d1,d2⟩:=decomp_kids h4
  have hon:onM ms compat e=some (Hg.decomp e):=if_pos h4
  have:=Full.node (on:=onM ms compat) (vs:=(Hg.decomp e).map (fun x=>[x])) hon (by simp) (fun i h1 h2=>by
   simp only [List.getElem_map]
   obtain ⟨_,g2,g3⟩:=d2 _ (List.getElem_mem h1)
   refine .leaf (onM_none_kind hh compat g3 ?_)
   unfold hk at g2
   split at g2
   ·cases g2
   ·omega)
  have e1:((Hg.decomp e).map (fun x=>[x])).flatten=Hg.decomp e:=by rw [←List.flatMap_def];simp
  rw [e1] at this
  exact this
 ·rw [decomp_no (by omega)]
  refine .leaf ?_
  unfold onM
  rw [if_neg h4,h]
  rfl
theorem mapsF (hs:StF ms) (hh:NoHg ms) (compat:Bool):MapsF ms.length (frmM ms) (toM ms) (fndM ms compat) (onM ms compat) (skipM ms compat):=by
 refine ⟨fun i hi hk=>?_,fun e m h=>?_,fun e h=>Full_no hh compat h⟩
 ·rw [frmM_at hi,onM_frm hs hh compat hi,toM_at hi,if_pos]
  unfold skipM at hk
  cases compat <;> simp_all [List.getD]
 ·obtain ⟨hi,h1,h2⟩:=fndM_at h
  refine ⟨hi,by rw [frmM_at hi];exact h1,?_⟩
  unfold skipM
  rcases h2 with h2 | h2
  ·rw [h2];rfl
  ·simp [List.getD,hi,h2]
theorem all_full (hs:StF ms) (hh:NoHg ms) (he:endB ms=true) (hl:longB ms=false) (compat:Bool):∀i,i < ms.length→∃l,Full (onM ms compat) (frmM ms i) l∧l.length≤64:=by
 intro i hi
 have h1:=lensM_ok hs hh he compat i hi
 have hle:(lensM ms compat).getD i 0≤64:=by
  unfold longB at hl
  have:=List.any_eq_false.1 hl i (List.mem_range.2 hi)
  simp at this
  cases compat
  ·simpa using this.1
  ·simpa using this.2
 obtain ⟨l,g1,g2⟩:=h1.full (by unfold capE;omega)
 rw [frmM_at hi]
 refine ⟨l,g1,?_⟩
 have:=g2 (by unfold capE;omega)
 omega
def TabLe (ms:List Mp) (compat:Bool) (T:List (List Int)):Prop:=T.length=ms.length∧∀i l,i < ms.length→skipM ms compat i=false→Full (onM ms compat) (frmM ms i) l→(T.getD i []).length≤l.length
theorem TabLe.start (ms:List Mp) (compat:Bool):TabLe ms compat (List.replicate ms.length []):=⟨by simp,fun i l hi _ _=>by simp [List.getD,hi]⟩
theorem TabLe.step (hs:StF ms) (hh:NoHg ms) {compat:Bool} {T:List (List Int)} (h:TabLe ms compat T) {i:Nat} (hi:i < ms.length):TabLe ms compat (tabStep (toM ms) (fndM ms compat) (skipM ms compat) T i):=
 ⟨by rw [tabStep_len];exact h.1,tab_le (mapsF hs hh compat) [i] (fun j hj=>by simp at hj;subst hj;exact hi) T h.1 h.2⟩
theorem TabLe.fold (hs:StF ms) (hh:NoHg ms) {compat:Bool} (s:List Nat):∀{T:List (List Int)},TabLe ms compat T→(∀i ∈ s,i < ms.length)→TabLe ms compat (s.foldl (tabStep (toM ms) (fndM ms compat) (skipM ms compat)) T):=by
 induction s with
 | nil=>intro T h _;exact h
 | cons x s ih=>intro T h hx;exact ih (h.step hs hh (hx x (by simp))) (fun i hi=>hx i (by simp [hi]))
theorem TabLe.rounds (hs:StF ms) (hh:NoHg ms) (compat:Bool) (r:Nat):TabLe ms compat (tabR (toM ms) (fndM ms compat) (skipM ms compat) ms.length r):=by
 induction r with
 | zero=>exact TabLe.start ms compat
 | succ r ih=>exact ih.fold hs hh _ (fun i hi=>List.mem_range.1 hi)
def TabSk (ms:List Mp) (compat:Bool) (T:List (List Int)):Prop:=∀i,skipM ms compat i=true→T.getD i []=[]
theorem TabSk.step {compat:Bool} {T:List (List Int)} (h:TabSk ms compat T) (i:Nat):TabSk ms compat (tabStep (toM ms) (fndM ms compat) (skipM ms compat) T i):=by
 intro j hj
 unfold tabStep
 split
 ·exact h j hj
 ·next hi=>
  have:i≠j:=fun e=>by subst e;exact hi hj
  have:=h j hj
  simp_all [List.getD]
theorem TabLe.le64 (hs:StF ms) (hh:NoHg ms) (he:endB ms=true) (hl:longB ms=false) {compat:Bool} {T:List (List Int)} (h:TabLe ms compat T) {i:Nat} (hi:i < ms.length) (hk:skipM ms compat i=false):(T.getD i []).length≤64:=by
 obtain ⟨l,h1,h2⟩:=all_full hs hh he hl compat i hi
 have:=h.2 i l hi hk h1
 omega
theorem tabM_full (hs:StF ms) (hh:NoHg ms) (he:endB ms=true) (compat:Bool) {i:Nat} (hi:i < ms.length) (hk:skipM ms compat i=false):Full (onM ms compat) ms[i].frm ((tabM ms compat).getD i []):=by
 have hfl:∀j ∈ (List.replicate ms.length (List.range ms.length)).flatten,j < ms.length:=fun j hj=>by
  obtain ⟨l,h1,h2⟩:=List.mem_flatten.1 hj
  rw [List.eq_of_mem_replicate h1] at h2
  exact List.mem_range.1 h2
 have h0:=tab_sound (mapsF hs hh compat) (fndM_sub hs compat) (List.replicate ms.length (List.range ms.length)).flatten hfl i hi hk
 have e1:=iter_flat (endStep (toM ms) (fndM ms true)) ms.length (rnds ms.length (toM ms) (fndM ms true)) (fun _=>rfl) ms.length
 have e2:=iter_flat (tabStep (toM ms) (fndM ms compat) (skipM ms compat)) ms.length (tabR (toM ms) (fndM ms compat) (skipM ms compat) ms.length) (fun _=>rfl) ms.length
 simp only [rnds,tabR] at e1 e2
 rw [e1,e2] at h0
 have hl:=(rnds_ok ms.length (toM ms) (fndM ms true) ms.length).1
 have:(rnds ms.length (toM ms) (fndM ms true) ms.length).getD i false=true:=by
  unfold endB at he
  have hi':i < (rnds ms.length (toM ms) (fndM ms true) ms.length).length:=by rw [hl];exact hi
  have:=List.all_eq_true.1 he _ (List.getElem_mem hi')
  simpa [List.getD,hi'] using this
 have h1:=h0 this
 rw [frmM_at hi] at h1
 exact h1
theorem dcM_full (hs:StF ms) (hh:NoHg ms) (he:endB ms=true) (compat:Bool) (c:Int):Full (onM ms compat) c (dcM ms compat c):=by
 unfold dcM replE
 cases hf:fndM ms compat c with
 | none=>exact Full_no hh compat hf
 | some m=>
  obtain ⟨hm,h1,_⟩:=fndM_at hf
  have hk:=((mapsF hs hh compat).fd c m hf).2.2
  have:=tabM_full hs hh he compat hm hk
  rw [h1] at this
  exact this
theorem dcM_len (hs:StF ms) (hh:NoHg ms) (he:endB ms=true) (hl:longB ms=false) (compat:Bool) (c:Int):(dcM ms compat c).length≤64:=by
 unfold dcM replE
 cases hf:fndM ms compat c with
 | none=>
  by_cases h4:4≤Hg.kind c
  ·have:=(decomp_kids h4).1;dsimp only;omega
  ·dsimp only;rw [decomp_no (by omega)];simp
 | some m=>
  obtain ⟨hm,h1,_⟩:=fndM_at hf
  have hk:=((mapsF hs hh compat).fd c m hf).2.2
  exact (TabLe.rounds hs hh compat ms.length).le64 hs hh he hl hm hk
theorem dcM_elem (hs:StF ms) (hh:NoHg ms) (he:endB ms=true) (compat:Bool) {c e:Int} (h:e ∈ dcM ms compat c):dcM ms compat e=[e]:=
 (dcM_full hs hh he compat e).func (.leaf ((dcM_full hs hh he compat c).done e h))
end
end Go.Proofs.YtkhmjidaeliccaaGreatDoor
namespace Go.Proofs.YtkhmjidaeliccaaGreatDoor
open Go.RowKit Go.Maps Go.WideMaps
def repV (n:Nat) (v:Value):List Value:=List.replicate n v
theorem Box.sl {w:World} {b:Nat} {t:TypeId} {cs:List Value} (h:Box w b t cs):Sl w (some ⟨b,0,none⟩) cs:=fun _=>⟨b,0,rfl,fun j u hu=>by rw [Nat.zero_add];exact h.cell hu⟩
end Go.Proofs.YtkhmjidaeliccaaGreatDoor
namespace Go.Proofs.YtkhmjidaeliccaaGreatDoor
open Go.RowKit Go.Maps Go.WideMaps
end Go.Proofs.YtkhmjidaeliccaaGreatDoor
namespace Go.Proofs.YtkhmjidaeliccaaGreatDoor
open Go.RowKit Go.Maps Go.WideMaps
def LenB (L:List Int):Prop:=∀x ∈ L,0≤x∧x≤65
theorem LenB.getD {L:List Int} (h:LenB L) (i:Nat):0≤L.getD i 0∧L.getD i 0≤65:=by
 by_cases hi:i < L.length
 ·have:=h _ (List.getElem_mem hi)
  simpa [List.getD,hi] using this
 ·simp [List.getD,Nat.le_of_not_lt hi]
theorem lenV_bd {L:List Int} {toq:Nat→List Int} {fnd:Int→Option Nat} (i:Nat):0≤lenV toq fnd dlM capE L i∧lenV toq fnd dlM capE L i≤65:=by unfold lenV capE;omega
theorem LenB.step {L:List Int} (h:LenB L) (toq:Nat→List Int) (fnd:Int→Option Nat) (skip:Nat→Bool) (i:Nat):LenB (lenStep toq fnd dlM capE skip L i):=by
 intro x hx
 unfold lenStep at hx
 rcases List.mem_or_eq_of_mem_set hx with hx | hx
 ·exact h x hx
 ·subst hx
  split
  ·omega
  ·exact lenV_bd i
theorem LenB.fold (toq:Nat→List Int) (fnd:Int→Option Nat) (skip:Nat→Bool) (s:List Nat):∀{L:List Int},LenB L→LenB (s.foldl (lenStep toq fnd dlM capE skip) L):=by
 induction s with
 | nil=>intro L h;exact h
 | cons x s ih=>intro L h;exact ih (h.step toq fnd skip x)
end Go.Proofs.YtkhmjidaeliccaaGreatDoor
namespace Go.Proofs.YtkhmjidaeliccaaGreatDoor
open Go.RowKit Go.Maps Go.WideMaps
def anyGe (l:List Int) (n:Int):Bool:=l.any (fun x=>decide (n≤x))
def plk (l:List Int) (n:Int) (k:Nat):List Int:=if anyGe (l.take k) n=true then placeL (l.take k) n else l.take k
section
variable {l:List Int} {n:Int} {k:Nat}
theorem plk_len:(plk l n k).length≤k+1:=by
 have:∀(s:List Int),(placeL s n).length≤s.length+1:=by
  intro s
  induction s with
  | nil=>simp [placeL]
  | cons y r ih=>
   simp only [placeL]
   split
   ·split <;> simp
   ·simp only [List.length_cons];omega
 unfold plk
 split
 ·have h:=this (l.take k)
  have:=List.length_take_le k l
  omega
 ·have:=List.length_take_le k l
  omega
end
theorem placeL_len (l:List Int) (n:Int):(placeL l n).length≤l.length+1:=by
 induction l with
 | nil=>simp [placeL]
 | cons y r ih=>
  simp only [placeL]
  split
  ·split <;> simp
  ·simp only [List.length_cons];omega
end Go.Proofs.YtkhmjidaeliccaaGreatDoor
namespace Go.Proofs.YtkhmjidaeliccaaGreatDoor
open Go.RowKit
variable {P:Program} {w:World}
end Go.Proofs.YtkhmjidaeliccaaGreatDoor
namespace Go.Proofs.YtkhmjidaeliccaaGreatDoor
open Go.RowKit Go.Maps Go.WideMaps
def RetIs (l:List Int) (w:World) (e:Ending) (w':World):Prop:=∃E d,e=.returned (.slice E l.length d)∧l.length≤d∧Ints w' E l∧Below w.heap.size w w'
theorem RetOwnI.is {l:List Int} {w:World} {e:Ending} {w':World} (h:RetOwnI l w e w'):RetIs l w e w':=by
 obtain ⟨A,c,h1,h2,h3⟩:=h
 obtain ⟨_,_,hv,hc⟩:=own_form h2
 injection hv with _ _ hv
 subst hv
 exact ⟨A,c,h1,hc,Sl.of_own h2,h3⟩
theorem cut1_len (l:List Int) (r:Rg):(cut1 l r).length≤l.length+2:=by
 unfold cut1
 dsimp only
 have h1:(if inR 0 1114111 r.lo=true then placeL l r.lo else l).length≤l.length+1:=by
  split
  ·exact placeL_len _ _
  ·omega
 split
 ·have:=placeL_len (if inR 0 1114111 r.lo=true then placeL l r.lo else l) (r.hi+1);omega
 ·omega
theorem fold_len (rs:List Rg) (l:List Int):(rs.foldl cut1 l).length≤l.length+2*rs.length:=by
 induction rs generalizing l with
 | nil=>simp
 | cons r rs ih=>
  have:=ih (cut1 l r)
  have:=cut1_len l r
  simp only [List.foldl_cons,List.length_cons]
  omega
theorem cuts_len (rs:List Rg) (l:List Int):(cutsL l rs).length≤l.length+2*rs.length+1:=by
 unfold cutsL
 have:=placeL_len (rs.foldl cut1 l) 0
 have:=fold_len rs l
 omega
section
variable {p:Int→Bool} {cs:List Int} {i:Nat}
theorem bld_len:∀i,(bld p cs i).1.length≤i
 | 0=>Nat.le_refl _
 | i+1=>by
  have ih:=bld_len i
  simp only [bld]
  split
  ·dsimp only
   split
   ·rw [growL_len];omega
   ·rw [List.length_append];simp;omega
  ·dsimp only;omega
end
theorem flatR_sethi (d:List Rg) (i:Nat) (h:Int) {x:Rg} (hx:d[i]?=some x):(flatK Rg.cells d).set (i*2+1) (.int .i64 h)=flatK Rg.cells (d.set i ⟨x.lo,h⟩):=by
 induction d generalizing i with
 | nil=>simp at hx
 | cons y r ih=>
  cases i with
  | zero=>simp at hx;subst hx;simp [flatK,Rg.cells]
  | succ i=>
   have h1:=ih i (by simpa using hx)
   simp only [flatK,List.flatMap_cons,Rg.cells,List.cons_append,List.nil_append,List.set_cons_succ] at *
   rw [show (i+1)*2=i*2+1+1 by omega]
   simp only [List.set_cons_succ,h1]
theorem info_rg:(Tryz.prog.info? 179).map (fun i=>(i.zero,i.size,i.bytes))=some (some (.agg #[.int .i64 0,.int .i64 0]),2,16):=by kernel_rfl
theorem oneCell_rg (r:Rg):∀u ∈ Rg.cells r,u.oneCell'=true:=by
 intro u hu
 simp only [Rg.cells,List.mem_cons,List.not_mem_nil,or_false] at hu
 rcases hu with rfl | rfl <;> rfl
theorem own_le {w:World} {base:Nat} {e:TypeId} {size n c:Nat} {A:Option Addr} {xs:List Value} (h:w.ownsRow base e size (.slice A n c) n xs):n≤c:=by
 obtain ⟨_,_,hv,hc⟩:=own_form h
 injection hv with _ _ hv
 subst hv
 exact hc
theorem own_off {w:World} {base:Nat} {e:TypeId} {size n:Nat} {v:Value} {xs:List Value} (h:w.ownsRow base e size v n xs) {p:Addr} (hp:p.block < base) (u:Value):(w.setCell p u).ownsRow base e size v n xs:=
 h.kept (grown_set w p u) (by
  cases hv:v.ownBlock with
  | none=>exact .inl rfl
  | some q=>
   right
   have:=(h.lt q hv).1
   intro e
   injection e with e
   omega)
def RetSet (rs:List Rg) (w:World) (e:Ending) (w':World):Prop:=∃E d,e=.returned (.agg #[.slice E rs.length d])∧rs.length≤d∧Rgs w' E rs∧Below w.heap.size w w'
end Go.Proofs.YtkhmjidaeliccaaGreatDoor
namespace Go.Proofs.YtkhmjidaeliccaaGreatDoor
open Go.RowKit Go.Maps Go.WideMaps
def RowsAt (w:World) (B:Option Addr) (T:List (List Int)):Prop:=∃vs:List Value,Sl w B vs∧vs.length=T.length∧∀i,(hi:i < T.length)→(hv:i < vs.length)→∃C c,vs[i]=.slice C T[i].length c∧T[i].length≤c∧Ints w C T[i]
theorem RowsAt.below {w w':World} {B:Option Addr} {T:List (List Int)} (h:RowsAt w B T) (hb:Below w.heap.size w w'):RowsAt w' B T:=by
 obtain ⟨vs,h1,h2,h3⟩:=h
 exact ⟨vs,h1.below hb,h2,fun i hi hv=>by obtain ⟨C,c,e1,e2,e3⟩:=h3 i hi hv;exact ⟨C,c,e1,e2,e3.below hb⟩⟩
theorem RowsAt.at {w:World} {B:Option Addr} {T:List (List Int)} (h:RowsAt w B T) {m:Nat} (hm:m < T.length):∃b o C c,B=some ⟨b,o,none⟩∧w.cell? ⟨b,o+m,none⟩=some (.slice C T[m].length c)∧T[m].length≤c∧Ints w C T[m]:=by
 obtain ⟨vs,h1,h2,h3⟩:=h
 have hv:m < vs.length:=by omega
 obtain ⟨C,c,e1,e2,e3⟩:=h3 m hm hv
 obtain ⟨b,o,hB,hc⟩:=h1.at hv
 exact ⟨b,o,C,c,hB,hc m _ (by rw [List.getElem?_eq_getElem hv,e1]),e2,e3⟩
theorem ints_off {W:World} {b i:Nat} {t:TypeId} {cs:List Value} {v:Value} {E:Option Addr} {R:List Int} (h:Ints W E R) (hX:Box W b t cs) (hv:∀(j:Nat) (z:Int),¬cs[j]?=some (Value.int .i64 z)):Ints (W.setCell ⟨b,i,none⟩ v) E R:=by
 intro hne
 obtain ⟨b',o,hA,hc⟩:=h hne
 refine ⟨b',o,hA,fun j u hu=>?_⟩
 have h1:=hc j u hu
 refine (World.cell?_setCell_far _ _ _ _ (fun e=>?_)).trans h1
 have e':b=b':=e
 subst e'
 obtain ⟨z,rfl⟩:∃z,u=.int .i64 z:=by
  have hm:=List.mem_of_getElem? hu
  obtain ⟨z,_,rfl⟩:=List.mem_map.1 hm
  exact ⟨z,rfl⟩
 unfold Box at hX
 simp [World.cell?,hX] at h1
 exact hv _ _ h1
def BoxRows (w:World) (b:Nat) (T:List (List Int)):Prop:=∃vs:List Value,Box w b 33 vs∧vs.length=T.length∧∀i,(hi:i < T.length)→(hv:i < vs.length)→∃C c,vs[i]=.slice C T[i].length c∧T[i].length≤c∧Ints w C T[i]
theorem BoxRows.rows {w:World} {b:Nat} {T:List (List Int)} (h:BoxRows w b T):RowsAt w (some ⟨b,0,none⟩) T:=by
 obtain ⟨vs,h1,h2,h3⟩:=h
 exact ⟨vs,h1.sl,h2,h3⟩
theorem BoxRows.lt {w:World} {b:Nat} {T:List (List Int)} (h:BoxRows w b T):b < w.heap.size:=by obtain ⟨vs,h1,_⟩:=h;exact h1.lt
theorem BoxRows.below {w w':World} {b:Nat} {T:List (List Int)} (h:BoxRows w b T) (hb:Below w.heap.size w w'):BoxRows w' b T:=by
 obtain ⟨vs,h1,h2,h3⟩:=h
 exact ⟨vs,h1.below hb h1.lt,h2,fun i hi hv=>by obtain ⟨C,c,e1,e2,e3⟩:=h3 i hi hv;exact ⟨C,c,e1,e2,e3.below hb⟩⟩
theorem BoxRows.set {w:World} {b:Nat} {T:List (List Int)} (h:BoxRows w b T) {i:Nat} {E:Option Addr} {l:List Int} {d:Nat} (hd:l.length≤d) (hE:Ints w E l):BoxRows (w.setCell ⟨b,i,none⟩ (.slice E l.length d)) b (T.set i l):=by
 obtain ⟨vs,h1,h2,h3⟩:=h
 have hno:∀(j:Nat) (z:Int),¬vs[j]?=some (Value.int .i64 z):=by
  intro j z e
  obtain ⟨hj,e2⟩:=List.getElem?_eq_some_iff.1 e
  obtain ⟨C,c,e1,_⟩:=h3 j (by omega) hj
  rw [e1] at e2
  cases e2
 refine ⟨_,h1.set i _,by simp [h2],fun j hj hv=>?_⟩
 rw [List.getElem_set,List.getElem_set]
 by_cases hij:i=j
 ·subst hij
  rw [if_pos rfl,if_pos rfl]
  exact ⟨E,d,rfl,hd,ints_off hE h1 hno⟩
 ·rw [if_neg hij,if_neg hij]
  simp only [List.length_set] at hj hv
  obtain ⟨C,c,e1,e2,e3⟩:=h3 j hj hv
  exact ⟨C,c,e1,e2,ints_off e3 h1 hno⟩
theorem BoxRows.cell {w:World} {b:Nat} {T:List (List Int)} (h:BoxRows w b T) {i:Nat} (hi:i < T.length):(∃v,w.cell? ⟨b,i,none⟩=some v)∧w.frozen? ⟨b,i,none⟩=false:=by
 obtain ⟨vs,h1,h2,h3⟩:=h
 exact ⟨⟨_,h1.cell (List.getElem?_eq_getElem (by omega))⟩,h1.free i⟩
theorem BoxRows.new (w:World) (n:Nat):BoxRows (w.alloc (.cells (repV n (Value.slice none 0 0)).toArray 33)) w.heap.size (List.replicate n []):=by
 refine ⟨_,Box.new w 33 (repV n (Value.slice none 0 0)) rfl,by simp [repV],fun i hi hv=>⟨none,0,?_,?_,?_⟩⟩
 ·simp [repV]
 ·simp
 ·rw [List.getElem_replicate];exact Sl.nil _ _
section
variable {fnd:Int→Option Nat} {T:List (List Int)}
end
def TabOk (ms:List Mp) (compat:Bool) (T:List (List Int)):Prop:=TabLe ms compat T∧TabSk ms compat T
theorem TabOk.start (ms:List Mp) (compat:Bool):TabOk ms compat (List.replicate ms.length []):=⟨TabLe.start ms compat,fun i _=>by
 by_cases hi:i < ms.length
 ·simp [List.getD,hi]
 ·simp [List.getD,hi]⟩
end Go.Proofs.YtkhmjidaeliccaaGreatDoor
namespace Go.Proofs.YtkhmjidaeliccaaGreatDoor
open Go.RowKit
def blk (A:Option Addr):Option Nat:=A.map (fun a=>a.block)
theorem ownBlock_blk (A:Option Addr) (n c:Nat):Value.ownBlock (.slice A n c)=blk A:=by cases A <;> rfl
def upd {α:Type} (f:Nat→α) (j:Nat) (v:α):Nat→α:=fun k=>if k=j then v else f k
theorem upd_at {α:Type} (f:Nat→α) (j:Nat) (v:α):upd f j v j=v:=if_pos rfl
theorem upd_ne {α:Type} {f:Nat→α} {j k:Nat} {v:α} (h:k≠j):upd f j v k=f k:=if_neg h
structure R4 (w:World) (base:Nat) (A:Nat→Option Addr) (C:Nat→Nat) (R:Nat→List Int):Prop where
 own:∀k,k < 4→w.ownsRow base 3 1 (.slice (A k) (R k).length (C k)) (R k).length ((R k).map (Value.int .i64))
 ne:∀j k,j < 4→k < 4→j≠k→blk (A j)=none∨blk (A j)≠blk (A k)
section
variable {w w':World} {base:Nat} {A:Nat→Option Addr} {C:Nat→Nat} {R:Nat→List Int}
theorem R4.nil (w:World) (base:Nat):R4 w base (fun _=>none) (fun _=>0) (fun _=>[]):=⟨fun _ _=>World.ownsRow_nil _ _ _ _,fun _ _ _ _ _=>.inl rfl⟩
theorem R4.lt (h:R4 w base A C R) {k q:Nat} (hk:k < 4) (hq:blk (A k)=some q):base≤q∧q < w.heap.size:=(h.own k hk).lt q (by rw [ownBlock_blk];exact hq)
theorem R4.keep (h:R4 w base A C R) {q:Nat} (hg:w.grownBy w' (some q)) (hq:q < base):R4 w' base A C R:=by
 refine ⟨fun k hk=>(h.own k hk).kept hg ?_,h.ne⟩
 rw [ownBlock_blk]
 cases hb:blk (A k) with
 | none=>exact .inl rfl
 | some g=>
  right
  intro e
  injection e with e
  have:=(h.lt hk hb).1
  omega
theorem R4.below (h:R4 w base A C R) (hb:Below w.heap.size w w'):R4 w' base A C R:=⟨fun k hk=>own_keep (h.own k hk) hb,h.ne⟩
theorem R4.put (h:R4 w base A C R) {j:Nat} (hj:j < 4) {B:Option Addr} {k:Nat} {zs:List Int} (ho:w'.ownsRow base 3 1 (.slice B zs.length k) zs.length (zs.map (Value.int .i64))) (hg:w.grownBy w' (blk (A j))) (hB:B=A j∨B=some ⟨w.heap.size,0,none⟩) :
  R4 w' base (upd A j B) (upd C j k) (upd R j zs):=by
 refine ⟨fun i hi=>?_,fun i l hi hl hne=>?_⟩
 ·by_cases e:i=j
  ·subst e
   rw [upd_at,upd_at,upd_at]
   exact ho
  ·rw [upd_ne e,upd_ne e,upd_ne e]
   refine (h.own i hi).kept hg ?_
   rw [ownBlock_blk]
   exact h.ne i j hi hj e
 ·have nb:∀i,i < 4→i≠j→blk (A i)=none∨blk (A i)≠blk B:=fun i hi e=>by
   rcases hB with rfl | rfl
   ·exact h.ne i j hi hj e
   ·cases hb:blk (A i) with
    | none=>exact .inl rfl
    | some g=>
     right
     intro e2
     have e3:g=w.heap.size:=by injection e2
     have:=(h.lt hi hb).2
     omega
  by_cases e:i=j
  ·subst e
   rw [upd_at,upd_ne (fun g=>hne g.symm)]
   cases hb:blk B with
   | none=>exact .inl rfl
   | some g=>
    right
    rcases nb l hl (fun g=>hne g.symm) with g1 | g1
    ·rw [g1];simp
    ·rw [hb] at g1;exact fun e=>g1 e.symm
  ·rw [upd_ne e]
   by_cases e2:l=j
   ·subst e2
    rw [upd_at]
    exact nb i hi e
   ·rw [upd_ne e2]
    exact h.ne i l hi hl hne
end
end Go.Proofs.YtkhmjidaeliccaaGreatDoor
