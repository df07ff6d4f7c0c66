/- Texts that are merged into one file: ExpA, ExpB, SkWgt, Search, CkGroups, RefGroups, CkEntry, Compare. -/
import Derived.Test.YtkhmjidaeliccaaGreatDoorB01
import Derived.Test.YtkhmjidaeliccaaGreatDoorB02
import Derived.Test.YtkhmjidaeliccaaGreatDoorB03
import Derived.Test.YtkhmjidaeliccaaGreatDoorB10
import Derived.Test.YtkhmjidaeliccaaGreatDoorB11
import Derived.Test.YtkhmjidaeliccaaGreatDoorB12
import Derived.Deep.Cut
import Derived.Test.YtkhmjidaeliccaaGreatDoorProg
import Derived.Shelf.Abstract
import Derived.IntWalk
import Derived.WalkSpells
import Derived.Outline
import Derived.Deep.QuietTactic
import Derived.BigQuiet
set_option maxRecDepth 100000
set_option maxHeartbeats 51200000
namespace Go.Proofs.YtkhmjidaeliccaaGreatDoor
open Go.RowKit Go.Maps Go.WideMaps
def mkF (f:Int→Option Value):Int→Option Int:=fun c=>(f c).map (fun _=>0)
theorem mkF_none {f:Int→Option Value} {c:Int}:mkF f c=none ↔ f c=none:=by unfold mkF;cases f c <;> simp
theorem mkF_put (f:Int→Option Value) (c:Int) (v:Value):mkF (fun y=>if y=c then some v else f y)=putM (mkF f) c 0:=by
 funext x
 unfold mkF putM
 by_cases e:x=c
 ·simp [e]
 ·simp [e]
theorem grown_belowB {a w w':World} {r:Option Nat} {B:Nat} (h:a.grownBy w r) (g:Below B w w') (hB:a.heap.size≤B):a.grownBy w' r:=
 ⟨g.os.trans h.os,g.tape.trans h.tape,g.output.trans h.output,Nat.le_trans h.size g.size,fun k hk hne=>(g.block k (Nat.lt_of_lt_of_le hk hB)).trans (h.block k hk hne)⟩
theorem Sl.grownM {W W':World} {U:Nat} {A:Option Addr} {cs:List Value} (h:Sl W A cs) (hg:W.grownBy W' (some U)) (hU:∀o,W.cell? ⟨U,o,none⟩=none):Sl W' A cs:=by
 intro hne
 obtain ⟨b,o,rfl,hc⟩:=h hne
 refine ⟨b,o,rfl,fun j u hu=>?_⟩
 have h1:=hc j u hu
 have hq:b≠U:=fun e=>by rw [e,hU] at h1;cases h1
 exact (World.cell?_of_block (hg.block b (World.block_lt_of_cell? W _ h1) (fun e=>hq (by injection e)))).trans h1
theorem Full.noway {on:Int→Option (List Int)} {c:Int} {l:List Int} (h:Full on c l):¬Path on c c:=by
 have key:∀{c l},Full on c l→∀d,Path on c d→¬Path on d c:=by
  intro c l h
  induction h with
  | leaf h=>
   intro d p _
   rcases p.head with ⟨toq,h1,_⟩ | ⟨x,⟨toq,h1,_⟩,_⟩
   ·rw [h] at h1;cases h1
   ·rw [h] at h1;cases h1
  | @node c toq vs h1 h2 h3 ih=>
   have step:∀x,Edge on c x→∀y,Path on x y→¬Path on y x:=fun x ⟨to',g1,g2⟩ y=>by
    rw [h1] at g1
    injection g1 with g1
    subst g1
    obtain ⟨i,hi,rfl⟩:=List.getElem_of_mem g2
    exact ih i hi (by omega) y
   intro d p q
   rcases p.head with e | ⟨x,e,p2⟩
   ·have q2:Path on d d:=by
     rcases q.head with e2 | ⟨y,e2,q3⟩
     ·exact .more (.one e2) e
     ·exact .more q e
    exact step d e d q2 q2
   ·have q3:Path on d x:=.more q e
    exact step x e d p2 q3
 intro p
 exact key h c p p
def uM (ms:List Mp):List Int:=fsM ms++(List.range 11172).map (fun i:Nat=>44032+(i:Int))
theorem uM_len (ms:List Mp):(uM ms).length=ms.length+11172:=by unfold uM fsM;simp
theorem onM_uM {ms:List Mp} {b:Bool} {c:Int} {toq:List Int} (h:onM ms b c=some toq):c ∈ uM ms:=by
 unfold uM
 rw [List.mem_append]
 unfold onM at h
 split at h
 ·next h4=>
  right
  have hr:44032≤c∧c≤55203:=by
   have h5:=(Hg.kind_range c).2
   by_cases h44:Hg.kind c=4
   ·have:=kind_is4 h44;omega
   ·have:=kind_is5 (show Hg.kind c=5 by omega);omega
  exact List.mem_map.2 ⟨(c - 44032).toNat,List.mem_range.2 (by omega),by omega⟩
 ·left
  cases hf:fndM ms b c with
  | none=>rw [hf] at h;cases h
  | some i=>
   obtain ⟨hi,h1,_⟩:=fndM_at hf
   exact List.mem_map.2 ⟨ms[i],List.getElem_mem hi,h1⟩
structure XM (A0:Option Addr) (n0 k0:Nat) (A1:Option Addr) (n1 k1:Nat) (A2:Option Addr) (n2 k2:Nat) (ms:List Mp) (compat:Bool) (s:Nat) (w:World) (n:Nat) (f:Int→Option Value):Prop where
 bN:Box w s 28 [.slice A0 n0 k0,.slice A1 n1 k1,.slice A2 n2 k2]
 bB:Box w (s+1) 4 [.bool compat]
 mp:MapI w (s+2) n f
 bM:Box w (s+3) 171 [.map (some (s+2))]
 bX:Box w (s+4) 108 [.func (.func 118) #[] #[.pointer (some ⟨s+3,0,none⟩),.pointer (some ⟨s,0,none⟩),.pointer (some ⟨s+1,0,none⟩),.pointer (some ⟨s+4,0,none⟩)]]
 fd:∀c v,f c=some v→∃E d l,v=.slice E l.length d∧l.length≤d∧Full (onM ms compat) c l∧Ints w E l
section
variable {A0:Option Addr} {n0 k0:Nat} {A1:Option Addr} {n1 k1:Nat} {A2:Option Addr} {n2 k2:Nat} {ms:List Mp} {compat:Bool} {s:Nat} {w w':World} {n:Nat} {f:Int→Option Value}
theorem XM.below (h:XM A0 n0 k0 A1 n1 k1 A2 n2 k2 ms compat s w n f) (hb:Below w.heap.size w w'):XM A0 n0 k0 A1 n1 k1 A2 n2 k2 ms compat s w' n f:=
 ⟨h.bN.below hb h.bN.lt,h.bB.below hb h.bB.lt,h.mp.below hb,h.bM.below hb h.bM.lt,h.bX.below hb h.bX.lt,fun c v e=>by
  obtain ⟨E,d,l,h1,h2,h3,h4⟩:=h.fd c v e
  exact ⟨E,d,l,h1,h2,h3,h4.below hb⟩⟩
theorem XM.belowB {B:Nat} (h:XM A0 n0 k0 A1 n1 k1 A2 n2 k2 ms compat s w n f) (hb:Below B w w') (hB:s+4 < B) (hfd:∀c v,f c=some v→∃E d l,v=.slice E l.length d∧l.length≤d∧Full (onM ms compat) c l∧Ints w' E l):XM A0 n0 k0 A1 n1 k1 A2 n2 k2 ms compat s w' n f:=
 ⟨h.bN.below hb (by omega),h.bB.below hb (by omega),by
  obtain ⟨D,⟨es,clock,g1,g2⟩,g3⟩:=h.mp
  exact ⟨D,⟨es,clock,(hb.block _ (by omega)).trans g1,g2⟩,g3⟩,h.bM.below hb (by omega),h.bX.below hb (by omega),hfd⟩
theorem XM.put (h:XM A0 n0 k0 A1 n1 k1 A2 n2 k2 ms compat s w n f) {m:Nat} {c:Int} {E:Option Addr} {d:Nat} {l:List Int} (hm:MapI w' (s+2) m (fun y=>if y=c then some (.slice E l.length d) else f y)) (hg:w.grownBy w' (some (s+2)))
  (hd:l.length≤d) (hf:Full (onM ms compat) c l) (hE:Ints w E l):XM A0 n0 k0 A1 n1 k1 A2 n2 k2 ms compat s w' m (fun y=>if y=c then some (.slice E l.length d) else f y):=by
 refine ⟨h.bN.grown hg (by simp),h.bB.grown hg (by simp),hm,h.bM.grown hg (by simp),h.bX.grown hg (by simp),fun x v e=>?_⟩
 by_cases hx:x=c
 ·rw [if_pos hx] at e
  injection e with e
  subst hx
  exact ⟨E,d,l,e.symm,hd,hf,Sl.grownM hE hg h.mp.nocell⟩
 ·rw [if_neg hx] at e
  obtain ⟨E',d',l',h1,h2,h3,h4⟩:=h.fd x v e
  exact ⟨E',d',l',h1,h2,h3,Sl.grownM h4 hg h.mp.nocell⟩
end
structure XRet (A0:Option Addr) (n0 k0:Nat) (A1:Option Addr) (n1 k1:Nat) (A2:Option Addr) (n2 k2:Nat) (ms:List Mp) (compat:Bool) (s:Nat) (c:Int) (l:List Int) (w:World) (n:Nat) (f:Int→Option Value) (E:Option Addr) (w':World) (n':Nat) (f':Int→Option Value):Prop where
 ints:Ints w' E l
 st:XM A0 n0 k0 A1 n1 k1 A2 n2 k2 ms compat s w' n' f'
 gr:w.grownBy w' (some (s+2))
 pot:n'+unmarked (uM ms) (mkF f')≤n+unmarked (uM ms) (mkF f)
 fr:∀x E' m d,f' x=some (.slice E' m d)→f x=some (.slice E' m d)∨m=0∨∀b o,E'=some ⟨b,o,none⟩→w.heap.size≤b
 mks:∀x,f' x≠none→f x≠none∨x=c∨Path (onM ms compat) c x
def XRetE (A0:Option Addr) (n0 k0:Nat) (A1:Option Addr) (n1 k1:Nat) (A2:Option Addr) (n2 k2:Nat) (ms:List Mp) (compat:Bool) (s:Nat) (c:Int) (l:List Int) (w:World) (n:Nat) (f:Int→Option Value) (e:Ending) (w':World):Prop:=
 ∃E d n' f',e=.returned (.slice E l.length d)∧l.length≤d∧XRet A0 n0 k0 A1 n1 k1 A2 n2 k2 ms compat s c l w n f E w' n' f'
def XOk (A0:Option Addr) (n0 k0:Nat) (A1:Option Addr) (n1 k1:Nat) (A2:Option Addr) (n2 k2:Nat) (ms:List Mp) (compat:Bool) (s:Nat) (w0:World) (c:Int) (l:List Int):Prop:=
 iok c→l.length≤4096→∀(w:World) (n:Nat) (f:Int→Option Value),XM A0 n0 k0 A1 n1 k1 A2 n2 k2 ms compat s w n f→Below s w0 w→n+unmarked (uM ms) (mkF f)≤1000000000→
  Calls Tryz.prog 118 #[.int .i64 c,.pointer (some ⟨s+3,0,none⟩),.pointer (some ⟨s,0,none⟩),.pointer (some ⟨s+1,0,none⟩),.pointer (some ⟨s+4,0,none⟩)] w
   (XRetE A0 n0 k0 A1 n1 k1 A2 n2 k2 ms compat s c l w n f)
def Apart (f:Int→Option Value) (B:Option Addr):Prop:=∀x E m d b o b' o',f x=some (.slice E m d)→E=some ⟨b,o,none⟩→B=some ⟨b',o',none⟩→m=0∨b≠b'
section
variable {A0:Option Addr} {n0 k0:Nat} {A1:Option Addr} {n1 k1:Nat} {A2:Option Addr} {n2 k2:Nat} {ms:List Mp} {compat:Bool} {s:Nat} {w w':World} {n:Nat} {f:Int→Option Value}
theorem XM.app (h:XM A0 n0 k0 A1 n1 k1 A2 n2 k2 ms compat s w n f) {base m k:Nat} {ty:TypeId} {B:Option Addr} {xs:List Value} (ho:w.ownsRow base ty 1 (.slice B m k) m xs) (hap:Apart f B) (hg:w.grownBy w' (Value.ownBlock (.slice B m k))) (hb:Below base w w') (hB:s+4 < base):XM A0 n0 k0 A1 n1 k1 A2 n2 k2 ms compat s w' n f:=by
 refine h.belowB hb hB fun c v e=>?_
 obtain ⟨E,d,l,h1,h2,h3,h4⟩:=h.fd c v e
 refine ⟨E,d,l,h1,h2,h3,fun hne=>?_⟩
 obtain ⟨b,o,rfl,hc⟩:=h4 hne
 refine ⟨b,o,rfl,fun j u hu=>?_⟩
 have hlt:=World.block_lt_of_cell? w _ (hc j u hu)
 refine (World.cell?_of_block (hg.block b hlt ?_)).trans (hc j u hu)
 intro e2
 cases B with
 | none=>simp [Value.ownBlock] at e2
 | some a=>
  obtain ⟨g,cap,cur,hv⟩:∃g cap cur,(Value.slice (some a) m k)=.slice (some ⟨g,0,none⟩) m cap∧w.heap[g]?=some (.cells cur ty (0,0)):=by
   rcases ho.2 with ⟨hv,_⟩ | ⟨g,cap,cur,hv,_,hg2,_⟩
   ·cases hv
   ·exact ⟨g,cap,cur,hv,hg2⟩
  have hv1:=hv.1
  injection hv1 with hv1
  injection hv1 with hv1
  subst hv1
  simp only [Value.ownBlock,Option.some.injEq] at e2
  subst h1
  rcases hap c _ _ _ b o g 0 e rfl rfl with h0 | h0
  ·have:l=[]:=List.eq_nil_of_length_eq_zero h0
   subst this
   exact hne rfl
  ·exact h0 e2
theorem XM.apart_new (h:XM A0 n0 k0 A1 n1 k1 A2 n2 k2 ms compat s w n f):Apart f (some ⟨w.heap.size,0,none⟩):=by
 intro x E m d b o b' o' e hE hB
 obtain ⟨E2,d2,l,h1,h2,h3,h4⟩:=h.fd x _ e
 injection h1 with g1 g2 g3
 subst g1;subst g2
 by_cases h0:l=[]
 ·left;rw [h0];rfl
 ·right
  obtain ⟨b2,o2,hA,hc⟩:=h4 (by simpa using h0)
  rw [hE] at hA
  injection hA with hA
  injection hA with i1 i2
  subst i1;subst i2
  injection hB with hB
  injection hB with j1 j2
  obtain ⟨y,r,rfl⟩:∃y r,l=y::r:=by cases l with | nil=>exact absurd rfl h0 | cons y r=>exact ⟨y,r,rfl⟩
  have:=World.block_lt_of_cell? w _ (hc 0 _ rfl)
  simp at this
  omega
theorem Apart.nil (f:Int→Option Value):Apart f none:=by intro _ _ _ _ _ _ _ _ _ _ h;cases h
end
theorem zero_intsM (w:World):(zeroValue 33).run Tryz.prog w=.ok (.slice none 0 0) w:=by kernel_rfl
end Go.Proofs.YtkhmjidaeliccaaGreatDoor
namespace Go.Proofs.YtkhmjidaeliccaaGreatDoor
open Go.RowKit Go.Maps Go.WideMaps
theorem below_of_grown {a w:World} {U B:Nat} (h:a.grownBy w (some U)) (hB:B≤U) (hB2:B≤a.heap.size):Below B a w:=
 ⟨h.os,h.tape,h.output,h.size,fun k hk=>h.block k (by omega) (fun e=>by injection e with e;omega)⟩
theorem flat_take_le (vs:List (List Int)) (i:Nat):(vs.take i).flatten.length≤vs.flatten.length:=by
 conv=>rhs;rw [←List.take_append_drop i vs,List.flatten_append,List.length_append]
 omega
theorem flat_take_succ {vs:List (List Int)} {i:Nat} (hi:i < vs.length):(vs.take (i+1)).flatten=(vs.take i).flatten++vs[i]:=by
 rw [List.take_succ_eq_append_getElem hi,List.flatten_append,List.flatten_singleton]
structure XLoop (A0:Option Addr) (n0 k0:Nat) (A1:Option Addr) (n1 k1:Nat) (A2:Option Addr) (n2 k2:Nat) (ms:List Mp) (compat:Bool) (s:Nat) (Q:Int→Prop) (fl:List Int) (w w1:World) (n:Nat) (f:Int→Option Value) (B:Option Addr) (k:Nat) (W:World) (n':Nat) (f':Int→Option Value):Prop where
 own:W.ownsRow w1.heap.size 3 1 (.slice B fl.length k) fl.length (fl.map (Value.int .i64))
 st:XM A0 n0 k0 A1 n1 k1 A2 n2 k2 ms compat s W n' f'
 gr:w1.grownBy W (some (s+2))
 pot:n'+unmarked (uM ms) (mkF f')≤n+unmarked (uM ms) (mkF f)
 fr:∀x E' m d,f' x=some (.slice E' m d)→f x=some (.slice E' m d)∨m=0∨∀b o,E'=some ⟨b,o,none⟩→w.heap.size≤b
 mks:∀x,f' x≠none→f x≠none∨Q x
 ap:Apart f' B
section
variable {A0:Option Addr} {n0 k0:Nat} {A1:Option Addr} {n1 k1:Nat} {A2:Option Addr} {n2 k2:Nat} {ms:List Mp} {compat:Bool} {s:Nat} {Q:Int→Prop} {e:Int} {fl l:List Int} {w w1:World} {n:Nat} {f:Int→Option Value} {B:Option Addr} {k:Nat} {W:World} {n':Nat} {f':Int→Option Value}
theorem XLoop.lt (h:XLoop A0 n0 k0 A1 n1 k1 A2 n2 k2 ms compat s Q fl w w1 n f B k W n' f'):w1.heap.size≤W.heap.size:=h.gr.size
theorem XLoop.call (h:XLoop A0 n0 k0 A1 n1 k1 A2 n2 k2 ms compat s Q fl w w1 n f B k W n' f') (hw:w.heap.size≤w1.heap.size) (hs:s+4 < w1.heap.size) (he:∀x,x=e∨Path (onM ms compat) e x→Q x) {E:Option Addr} {W2:World} {n2':Nat} {f2:Int→Option Value}
  (p:XRet A0 n0 k0 A1 n1 k1 A2 n2 k2 ms compat s e l W n' f' E W2 n2' f2):XLoop A0 n0 k0 A1 n1 k1 A2 n2 k2 ms compat s Q fl w w1 n f B k W2 n2' f2:=by
 have hbl:∀g o,B=some ⟨g,o,none⟩→w1.heap.size≤g∧g < W.heap.size:=by
  intro g o hB
  subst hB
  rcases h.own.2 with ⟨hv,_⟩ | ⟨g',cap,cur,hv,h1,h2,_⟩
  ·cases hv
  ·injection hv with hv
   injection hv with hv
   injection hv with hv
   subst hv
   exact ⟨h1,(Array.getElem?_eq_some_iff.1 h2).1⟩
 refine ⟨h.own.kept p.gr ?_,p.st,grownR_trans h.gr p.gr,Nat.le_trans p.pot h.pot,fun x E' m d e1=>?_,fun x e1=>?_,?_⟩
 ·cases B with
  | none=>exact .inl rfl
  | some a=>
   right
   rcases h.own.2 with ⟨hv,_⟩ | ⟨g',cap,cur,hv,h1,h2,_⟩
   ·cases hv
   ·injection hv with hv
    rw [hv]
    simp only [Value.ownBlock]
    intro e2
    injection e2 with e2
    omega
 ·rcases p.fr x E' m d e1 with e2 | e2 | e2
  ·exact h.fr x E' m d e2
  ·exact .inr (.inl e2)
  ·exact .inr (.inr fun b o hb=>by have:=e2 b o hb;have:=h.lt;omega)
 ·rcases p.mks x e1 with e2 | e2 | e2
  ·exact h.mks x e2
  ·exact .inr (he x (.inl e2))
  ·exact .inr (he x (.inr e2))
 ·intro x E' m d b o b' o' e1 hE hB
  rcases p.fr x E' m d e1 with e2 | e2 | e2
  ·exact h.ap x E' m d b o b' o' e2 hE hB
  ·exact .inl e2
  ·right
   have:=e2 b o hE
   have:=hbl b' o' hB
   omega
theorem XLoop.app (h:XLoop A0 n0 k0 A1 n1 k1 A2 n2 k2 ms compat s Q fl w w1 n f B k W n' f') (hs:s+4 < w1.heap.size) {B':Option Addr} {k':Nat} {W':World} {zs:List Int}
  (ho:W'.ownsRow w1.heap.size 3 1 (.slice B' (fl.length+zs.length) k') (fl.length+zs.length) (fl.map (Value.int .i64)++zs.map (Value.int .i64))) (hb:Below w1.heap.size W W') (hg:W.grownBy W' (Value.ownBlock (.slice B fl.length k))) (hB:B'=B∨B'=some ⟨W.heap.size,0,none⟩) :
  XLoop A0 n0 k0 A1 n1 k1 A2 n2 k2 ms compat s Q (fl++zs) w w1 n f B' k' W' n' f':=by
 refine ⟨by rw [List.length_append,List.map_append];exact ho,h.st.app h.own h.ap hg hb hs,grown_belowB h.gr hb (Nat.le_refl _),h.pot,h.fr,h.mks,?_⟩
 rcases hB with rfl | rfl
 ·exact h.ap
 ·exact h.st.apart_new
end
theorem expand_found (A0:Option Addr) (n0 k0:Nat) (A1:Option Addr) (k1:Nat) (A2:Option Addr) (n2 k2:Nat) (s:Nat) (ms:List Mp) (compat:Bool) (w0:World) (_hs0:s=w0.heap.size) (_hA:Mps w0 A1 ms) (_hst:StF ms) (_hco:CodesOk ms) (_hbig:ms.length≤1048576) (c:Int) (l:List Int) (hF:Full (onM ms compat) c l) (hc:iok c)
  (w:World) (n:Nat) (f:Int→Option Value) (hms:XM A0 n0 k0 A1 ms.length k1 A2 n2 k2 ms compat s w n f) (_hbel:Below s w0 w) (_hn:n+unmarked (uM ms) (mkF f)≤1000000000) {v:Value} (hfc:f c=some v) :
  Calls Tryz.prog 118 #[.int .i64 c,.pointer (some ⟨s+3,0,none⟩),.pointer (some ⟨s,0,none⟩),.pointer (some ⟨s+1,0,none⟩),.pointer (some ⟨s+4,0,none⟩)] w
   (XRetE A0 n0 k0 A1 ms.length k1 A2 n2 k2 ms compat s c l w n f):=by
 obtain ⟨E,d,l',rfl,h2,h3,h4⟩:=hms.fd c v hfc
 obtain rfl:=h3.func hF
 have qm:w.cell? ⟨s+3,0,none⟩=some (.map (some (s+2))):=hms.bM.cell rfl
 have HM:=Lib.hid hms
 have HE:=Lib.hid h4
 clear hms _hA _hst _hco h3 hF h4 _hs0
 go_enter Tryz.func118,Tryz.ntmps118
 go_wp2_with (at_lookup;refine wpList_lookOk rfl _ _ 171 rfl HM.out.mp law_int Tryz.underlying171 (zero_intsM _) rfl rfl hc (key_int hc) ?_;rw [hfc];simp only [Option.getD_some,Option.isSome_some])
 go_ret
 exact ⟨E,d,n,f,rfl,h2,HE.out,HM.out,grownR_refl w _,Nat.le_refl _,fun x E' m d e=>.inl e,fun x e=>.inl e⟩
theorem expand_leaf (A0:Option Addr) (n0 k0:Nat) (A1:Option Addr) (k1:Nat) (A2:Option Addr) (n2 k2:Nat) (s:Nat) (ms:List Mp) (compat:Bool) (w0:World) (hs0:s=w0.heap.size) (hA:Mps w0 A1 ms) (hst:StF ms) (_hco:CodesOk ms) (hbig:ms.length≤1048576) (c:Int) (hR:onM ms compat c=none) (hc:iok c)
  (w:World) (n:Nat) (f:Int→Option Value) (hms:XM A0 n0 k0 A1 ms.length k1 A2 n2 k2 ms compat s w n f) (hbel:Below s w0 w) (_hn:n+unmarked (uM ms) (mkF f)≤1000000000) (hfc:f c=none) :
  Calls Tryz.prog 118 #[.int .i64 c,.pointer (some ⟨s+3,0,none⟩),.pointer (some ⟨s,0,none⟩),.pointer (some ⟨s+1,0,none⟩),.pointer (some ⟨s+4,0,none⟩)] w
   (XRetE A0 n0 k0 A1 ms.length k1 A2 n2 k2 ms compat s c [c] w n f):=by
 have ON:=Lib.hid (fun W (hb:Below s w0 W)=>once_any A0 n0 k0 A1 ms.length k1 A2 n2 k2 ms c compat W (hA.below (hs0 ▸ hb)) rfl hbig hst)
 have q0:w.cell? ⟨s,0,none⟩=some (.slice A0 n0 k0):=hms.bN.cell rfl
 have q1:w.cell? ⟨s,1,none⟩=some (.slice A1 ms.length k1):=hms.bN.cell rfl
 have q2:w.cell? ⟨s,2,none⟩=some (.slice A2 n2 k2):=hms.bN.cell rfl
 have qb:w.cell? ⟨s+1,0,none⟩=some (.bool compat):=hms.bB.cell rfl
 have qm:w.cell? ⟨s+3,0,none⟩=some (.map (some (s+2))):=hms.bM.cell rfl
 have HM:=Lib.hid hms
 rw [hR] at ON
 clear hms hA hst _hco hR hs0
 go_enter Tryz.func118,Tryz.ntmps118
 go_wp2_with (at_lookup;refine wpList_lookOk rfl _ _ 171 rfl HM.out.mp law_int Tryz.underlying171 (zero_intsM _) rfl rfl hc (key_int hc) ?_;rw [hfc];simp only [Option.getD_none,Option.isSome_none])
 with_reducible refine (ON.out _ hbel).mono ?_
 rintro e w1 ⟨E,d,rfl,hd,hE,hb1⟩
 simp only [Option.getD_none,Option.isSome_none]
 have HM1:=Lib.hid (HM.out.below hb1)
 clear ON hE hd
 go_wp2_with fail
 go_ret
 have hb2:=hb1.alloc hb1.size (.cells #[.int .i64 c] 3)
 exact ⟨some ⟨w1.heap.size,0,none⟩,1,n,f,rfl,Nat.le_refl _,Ints_new w1 [c] _ rfl,HM1.out.below ((Below.refl _ _).alloc (Nat.le_refl _) _),grownR_below (grownR_refl w _) hb2,Nat.le_refl _,fun x E' m d e=>.inl e,fun x e=>.inl e⟩
theorem expand_node (A0:Option Addr) (n0 k0:Nat) (A1:Option Addr) (k1:Nat) (A2:Option Addr) (n2 k2:Nat) (s:Nat) (ms:List Mp) (compat:Bool) (w0:World) (hs0:s=w0.heap.size) (hA:Mps w0 A1 ms) (hst:StF ms) (hco:CodesOk ms) (hbig:ms.length≤1048576) (c:Int) (toq:List Int) (vs:List (List Int)) (hR:onM ms compat c=some toq) (hlen:vs.length=toq.length) (hk:∀i,(hi:i < toq.length)→(hv:i < vs.length)→Full (onM ms compat) toq[i] vs[i])
  (ih:∀i,(hi:i < toq.length)→(hv:i < vs.length)→XOk A0 n0 k0 A1 ms.length k1 A2 n2 k2 ms compat s w0 toq[i] vs[i]) (hc:iok c) (hl:vs.flatten.length≤4096)
  (w:World) (n:Nat) (f:Int→Option Value) (hms:XM A0 n0 k0 A1 ms.length k1 A2 n2 k2 ms compat s w n f) (hbel:Below s w0 w) (hn:n+unmarked (uM ms) (mkF f)≤1000000000) (hfc:f c=none) :
  Calls Tryz.prog 118 #[.int .i64 c,.pointer (some ⟨s+3,0,none⟩),.pointer (some ⟨s,0,none⟩),.pointer (some ⟨s+1,0,none⟩),.pointer (some ⟨s+4,0,none⟩)] w
   (XRetE A0 n0 k0 A1 ms.length k1 A2 n2 k2 ms compat s c vs.flatten w n f):=by
 have ON:=Lib.hid (fun W (hb:Below s w0 W)=>once_any A0 n0 k0 A1 ms.length k1 A2 n2 k2 ms c compat W (hA.below (hs0 ▸ hb)) rfl hbig hst)
 have q0:w.cell? ⟨s,0,none⟩=some (.slice A0 n0 k0):=hms.bN.cell rfl
 have q1:w.cell? ⟨s,1,none⟩=some (.slice A1 ms.length k1):=hms.bN.cell rfl
 have q2:w.cell? ⟨s,2,none⟩=some (.slice A2 n2 k2):=hms.bN.cell rfl
 have qb:w.cell? ⟨s+1,0,none⟩=some (.bool compat):=hms.bB.cell rfl
 have qm:w.cell? ⟨s+3,0,none⟩=some (.map (some (s+2))):=hms.bM.cell rfl
 have HM:=Lib.hid hms
 have HNW:=Lib.hid ((Full.node hR hlen hk).noway)
 have HFU:=Lib.hid (Full.node hR hlen hk)
 have HU:=Lib.hid (onM_uM hR)
 have HED:=Lib.hid (fun e (he:e ∈ toq) x (h:x=e∨Path (onM ms compat) e x)=>show Path (onM ms compat) c x from h.elim (fun g=>g ▸ .one ⟨toq,hR,he⟩) (fun g=>g.front ⟨toq,hR,he⟩))
 have HIO:=Lib.hid (onM_codes hco hR)
 have HTL:=Lib.hid (onM_kids hco hR).1
 have IH:=Lib.hid ih
 have HLN:=Lib.hid hlen
 rw [hR] at ON
 have hsw:s+4 < w.heap.size:=hms.bX.lt
 clear hms hA hst hco hR hk ih hlen hs0
 go_enter Tryz.func118,Tryz.ntmps118
 go_wp2_with (at_lookup;refine wpList_lookOk rfl _ _ 171 rfl HM.out.mp law_int Tryz.underlying171 (zero_intsM _) rfl rfl hc (key_int hc) ?_;rw [hfc];simp only [Option.getD_none,Option.isSome_none])
 with_reducible refine (ON.out _ hbel).mono ?_
 rintro e w1 ⟨E,d,rfl,hd,hE,hb1⟩
 simp only [Option.getD_some,Option.isSome_some] at hd hE ⊢
 have HM1:=Lib.hid (HM.out.below hb1)
 have hsw1:s+4 < w1.heap.size:=by have:=hb1.size;omega
 have hww:w.heap.size≤w1.heap.size:=hb1.size
 have HG1:=Lib.hid (show w.grownBy w1 (some (s+2)) from grownR_below (grownR_refl w _) hb1)
 have htl:=HTL.out
 have HB1:=Lib.hid (hbel.trans (hb1.mono (by omega:s≤w.heap.size)))
 have HE:=Lib.hid hE
 clear ON hE hb1 q0 q1 q2 qb qm
 go_wp2_with fail
 go_loopw [11,35] (fun u q wr=>∃(i n':Nat) (f':Int→Option Value) (B:Option Addr) (k:Nat),i≤toq.length∧u=.slice B ((vs.take i).flatten).length k∧q=.int .i64 i∧XLoop A0 n0 k0 A1 ms.length k1 A2 n2 k2 ms compat s (Path (onM ms compat) c) ((vs.take i).flatten) w w1 n f B k wr n' f')
  (fun _ q _=>toq.length - (intOf q).toNat)
 case atStart=>
  exact ⟨0,n,f,none,0,Nat.zero_le _,rfl,rfl,⟨World.ownsRow_nil _ _ _ _,HM1.out,grownR_refl _ _,Nat.le_refl _,fun x E' m d e=>.inl e,fun x e=>.inl e,Apart.nil f⟩⟩
 case round=>
  obtain ⟨i,n',f',B,k,hile,rfl,rfl,HL0⟩:=hrel
  have HL:=Lib.hid HL0
  clear HL0
  by_cases hi:i < toq.length
  ·have hv:i < vs.length:=by rw [HLN.out];exact hi
   obtain ⟨b,o,rfl,hcell⟩:=(show Ints wr E toq from Sl.grownM HE.out HL.out.gr HM1.out.mp.nocell).at hi
   have hc0:=hcell i hi
   clear hcell
   have p5:wr.cell? ⟨s+4,0,none⟩=some (.func (.func 118) #[] #[.pointer (some ⟨s+3,0,none⟩),.pointer (some ⟨s,0,none⟩),.pointer (some ⟨s+1,0,none⟩),.pointer (some ⟨s+4,0,none⟩)]):=HL.out.st.bX.cell rfl
   have hmem:toq[i] ∈ toq:=List.getElem_mem hi
   have hfl:((vs.take i).flatten).length+vs[i].length≤4096:=by
    have h1:=flat_take_le vs (i+1)
    rw [flat_take_succ hv,List.length_append] at h1
    omega
   have CL:=Lib.hid (IH.out i hi hv (HIO.out _ hmem) (by omega) wr n' f' HL.out.st (HB1.out.trans (below_of_grown HL.out.gr (by omega) (by omega))) (by have:=HL.out.pot;omega))
   have NX:=Lib.hid (fun (E2:Option Addr) W n9 f9 (p:XRet A0 n0 k0 A1 ms.length k1 A2 n2 k2 ms compat s toq[i] vs[i] wr n' f' E2 W n9 f9)=>HL.out.call hww hsw1 (HED.out _ hmem) p)
   have FSq:=Lib.hid (flat_take_succ hv)
   clear hmem
   generalize toq[i]=te at *
   generalize vs[i]=ve at *
   generalize (vs.take i).flatten=fl at *
   go_wp2_with fail
   with_reducible refine CL.out.mono ?_
   rintro e W ⟨E2,d2,n9,f9,rfl,hd2,hp⟩
   have HL2:=Lib.hid (NX.out E2 W n9 f9 hp)
   have HE2:=Lib.hid hp.ints
   clear hp CL NX p5 HL
   go_wp2_with (at_builtin;refine wpList_app _ _ 33 3 (.int .i64 0) 1 8 rfl rfl Tryz.underlying33 info_int rfl (by decide) (by decide) rfl HL2.out.own rfl HE2.out (by simp) (oneCell_ints _) (by omega) HL2.out.lt ?_;intro B3 k3 w3 hown3 hc3 hb3 hg3 hB3)
   have HL3:=Lib.hid (HL2.out.app hsw1 hown3 hb3 hg3 hB3)
   clear hown3 hb3 hg3 hB3 HL2 HE2
   go_wp2_with fail
   go_roundw
   case rel=>exact ⟨i+1,n9,f9,B3,k3,by omega,by rw [FSq.out,List.length_append],by go_num,by rw [FSq.out];exact HL3.out⟩
   case measure=>simp [intOf];omega
  ·have hi':i=toq.length:=by omega
   subst hi'
   have p3:wr.cell? ⟨s+3,0,none⟩=some (.map (some (s+2))):=HL.out.st.bM.cell rfl
   have hfe:(vs.take toq.length).flatten=vs.flatten:=by rw [←HLN.out,List.take_length]
   rw [hfe] at HL ⊢
   have hfc':f' c=none:=by
    cases hx:f' c with
    | none=>rfl
    | some v=>
     rcases HL.out.mks c (by rw [hx];simp) with e | e
     ·exact absurd hfc e
     ·exact absurd e HNW.out
   have hpot:n'+1+unmarked (uM ms) (putM (mkF f') c 0)≤n+unmarked (uM ms) (mkF f):=by
    have h1:=unmarked_put (k:=0) HU.out (mkF_none.2 hfc')
    have h2:=HL.out.pot
    omega
   have HPOT:=Lib.hid hpot
   have hnn:n' < maxLen:=by unfold maxLen;omega
   obtain ⟨hkk,hbl⟩:vs.flatten.length≤k∧∀g o,B=some ⟨g,o,none⟩→w.heap.size≤g:=by
    refine ⟨?_,fun g o hB=>?_⟩
    ·obtain ⟨_,_,hv,hk⟩:=own_form HL.out.own
     injection hv with _ _ hv
     subst hv
     exact hk
    ·subst hB
     rcases HL.out.own.2 with ⟨hv,_⟩ | ⟨g',cap,cur,hv,h1,h2,_⟩
     ·cases hv
     ·injection hv with hv
      injection hv with hv
      injection hv with hv
      subst hv
      omega
   have HBL:=Lib.hid hbl
   have HEX:=Lib.hid (show Ints wr B vs.flatten from Sl.of_own HL.out.own)
   clear hpot hfc' hbl hfe
   generalize vs.flatten=fl at *
   go_wp2_with (at_mapUpdate;refine wpList_mput rfl _ _ _ 171 rfl HL.out.st.mp law_int Tryz.underlying171 hnn rfl rfl rfl hc (key_int hc) (fun y _ e=>ikey_inj e) ?_;intro w3 hM3 hg3)
   go_ret
   refine ⟨B,k,n'+1,_,rfl,hkk,Sl.grownM HEX.out hg3 HL.out.st.mp.nocell,HL.out.st.put hM3 hg3 hkk HFU.out HEX.out,(grownR_trans (grownR_trans HG1.out HL.out.gr) hg3),by rw [mkF_put];exact HPOT.out,fun x E' m d e=>?_,fun x e=>?_⟩
   ·by_cases hx:x=c
    ·rw [if_pos hx] at e
     injection e with e
     injection e with e1 e2 e3
     subst e1
     exact .inr (.inr HBL.out)
    ·rw [if_neg hx] at e
     exact HL.out.fr x E' m d e
   ·by_cases hx:x=c
    ·exact .inr (.inl hx)
    ·rw [if_neg hx] at e
     rcases HL.out.mks x e with e1 | e1
     ·exact .inl e1
     ·exact .inr (.inr e1)
theorem expand_ok (A0:Option Addr) (n0 k0:Nat) (A1:Option Addr) (k1:Nat) (A2:Option Addr) (n2 k2:Nat) (s:Nat) (ms:List Mp) (compat:Bool) (w0:World) (hs0:s=w0.heap.size) (hA:Mps w0 A1 ms) (hst:StF ms) (hco:CodesOk ms) (hbig:ms.length≤1048576) {c:Int} {l:List Int}
  (hfull:Full (onM ms compat) c l):XOk A0 n0 k0 A1 ms.length k1 A2 n2 k2 ms compat s w0 c l:=by
 induction hfull with
 | @leaf c hR=>
  intro hc hl w n f hms hbel hn
  cases hf:f c with
  | some v=>exact expand_found A0 n0 k0 A1 k1 A2 n2 k2 s ms compat w0 hs0 hA hst hco hbig c [c] (.leaf hR) hc w n f hms hbel hn hf
  | none=>exact expand_leaf A0 n0 k0 A1 k1 A2 n2 k2 s ms compat w0 hs0 hA hst hco hbig c hR hc w n f hms hbel hn hf
 | @node c toq vs hR hlen hk ih=>
  intro hc hl w n f hms hbel hn
  cases hf:f c with
  | some v=>exact expand_found A0 n0 k0 A1 k1 A2 n2 k2 s ms compat w0 hs0 hA hst hco hbig c _ (.node hR hlen hk) hc w n f hms hbel hn hf
  | none=>exact expand_node A0 n0 k0 A1 k1 A2 n2 k2 s ms compat w0 hs0 hA hst hco hbig c toq vs hR hlen hk ih hc hl w n f hms hbel hn hf
end Go.Proofs.YtkhmjidaeliccaaGreatDoor
namespace Go.Proofs.YtkhmjidaeliccaaGreatDoor
open Go.RowKit Go.Maps Go.WideMaps
theorem WghAt.low {w w':World} {s base:Nat} {va:Int} {a:Bool} (h:WghAt w s va a) (hb:Below base w w') (hs:s+1 < base):WghAt w' s va a:=⟨h.b0.below hb (by omega),h.b1.below hb hs⟩
theorem WghAt.set {w:World} {s:Nat} {va:Int} {a:Bool} (h:WghAt w s va a) (p:Addr) (hp:p.block < s) (v:Value):WghAt (w.setCell p v) s va a:=⟨bx_ne h.b0 p (by omega) v,bx_ne h.b1 p (by omega) v⟩
end Go.Proofs.YtkhmjidaeliccaaGreatDoor
namespace Go.Proofs.YtkhmjidaeliccaaGreatDoor
open Go.RowKit
structure Found (n:Nat) (p:Nat→Bool) (i:Nat):Prop where
 le:i≤n
 lo:∀t,t < i→p t=false
 hi:∀t,i≤t→t < n→p t=true
def RetFound (n:Nat) (p:Nat→Bool) (w:World) (e:Ending) (w':World):Prop:=∃i:Nat,e=.returned (.int .i64 i)∧Found n p i∧Below w.heap.size w w'
theorem search_any (g:FuncId) (cb:Array Value) (n:Nat) (p:Nat→Bool) (w:World) (eg:∀args W,(callFunc g args).run Tryz.prog W=.ok (.enter g args) W) (hbig:n≤1099511627776)
  (hf:∀(i:Nat) (W:World),i < n→Below w.heap.size w W→Calls Tryz.prog g (#[.int .i64 i]++cb) W (RetBool (p i) W)) (hm:∀a b,a≤b→b < n→p a=true→p b=true) :
  Calls Tryz.prog 171 #[.int .i64 n,.func (.func g) #[] cb] w (RetFound n p w):=by
 have HF:=Lib.hid hf
 have HM:=Lib.hid hm
 clear hf hm
 go_enter Tryz.func171,Tryz.ntmps171
 go_wp2
 go_loopw [5,6] (fun u v wr=>∃i j:Nat,i≤j∧j≤n∧u=.int .i64 i∧v=.int .i64 j∧(∀t,t < i→p t=false)∧(∀t,j≤t→t < n→p t=true)∧Below w.heap.size w wr)
  (fun u v _=>(intOf v).toNat - (intOf u).toNat)
 case atStart=>exact ⟨0,n,Nat.zero_le _,Nat.le_refl _,rfl,rfl,fun t h=>by omega,fun t h1 h2=>by omega,Below.refl _ _⟩
 case round=>
  obtain ⟨i,j,hij,hj,rfl,rfl,hlo,hhi,hbel⟩:=hrel
  have HLO:=Lib.hid hlo;have HHI:=Lib.hid hhi;clear hlo hhi
  by_cases hlt:i < j
  ·obtain ⟨h,hh,h1,h2,h3⟩:∃h:Nat,((i:Int)+(j:Int)) / 2=(h:Int)∧i≤h∧h < j∧h < n:=⟨(i+j) / 2,by omega,by omega,by omega,by omega⟩
   have C:=Lib.hid (HF.out h wr h3 hbel)
   cases hp:p h with
   | true=>
    have HP:=Lib.hid hp
    rw [hp] at C
    clear hp
    go_wp2_with (go_at_fn g;refine C.out.mono ?_;rintro e w1 ⟨rfl,hb1⟩)
    go_roundw
    case rel=>exact ⟨i,h,h1,by omega,rfl,rfl,HLO.out,fun t g1 g2=>HM.out h t g1 g2 HP.out,hbel.trans (hb1.mono hbel.size)⟩
    case measure=>simp [intOf];omega
   | false=>
    have HP:=Lib.hid hp
    rw [hp] at C
    clear hp
    go_wp2_with (go_at_fn g;refine C.out.mono ?_;rintro e w1 ⟨rfl,hb1⟩)
    go_roundw
    case rel=>
     refine ⟨h+1,j,by omega,hj,by go_num,rfl,fun t g1=>?_,HHI.out,hbel.trans (hb1.mono hbel.size)⟩
     cases ht:p t with
     | false=>rfl
     | true=>have:=HM.out t h (by omega) h3 ht;rw [HP.out] at this;cases this
    case measure=>simp [intOf];omega
  ·obtain rfl:i=j:=by omega
   go_wp2_with fail
   go_ret
   exact ⟨i,rfl,⟨hj,HLO.out,HHI.out⟩,hbel⟩
end Go.Proofs.YtkhmjidaeliccaaGreatDoor
namespace Go.Proofs.YtkhmjidaeliccaaGreatDoor
open Go.RowKit Go.Maps Go.WideMaps
theorem law_str:Keyed Tryz.prog 9:=string_keyed Tryz.underlying9
theorem zero_bool (w:World):(zeroValue 4).run Tryz.prog w=.ok (.bool false) w:=by kernel_rfl
theorem key_str {s:ByteArray} (h:s.size≤9223372036854775807):keyOf Tryz.prog 9 (.string s)=some (skey s):=keyOf_string_mk Tryz.underlying9 (by unfold maxLen;exact h)
theorem sok_of {s:ByteArray} (h:s.size≤9223372036854775807):sok s:=by unfold sok maxLen;exact h
instance (s:ByteArray) (l:List ByteArray):Decidable (s ∈ l):=decidable_of_iff (l.any (fun x=>decide (x=s))=true) (by simp)
def setF (l:List ByteArray) (s:ByteArray):Option Value:=if s ∈ l then some (.bool true) else none
theorem setF_yes {l:List ByteArray} {s:ByteArray} (h:s ∈ l):(setF l s).getD (.bool false)=.bool true:=by unfold setF;rw [if_pos h];rfl
theorem setF_no {l:List ByteArray} {s:ByteArray} (h:s ∉ l):(setF l s).getD (.bool false)=.bool false:=by unfold setF;rw [if_neg h];rfl
theorem setF_put (l:List ByteArray) (s:ByteArray) (x:ByteArray):setF (l++[s]) x=if x=s then some (.bool true) else setF l x:=by
 unfold setF
 by_cases h:x=s
 ·simp [h]
 ·simp [h]
theorem ckGroups_any (A:Option Addr) (n a:Nat) (B:Option Addr) (m b:Nat) (c:Col) (w:World) (h:ColAt w A n B m c) (hb65:c.base≤65502) (hbig:m≤1048576) :
  Calls Tryz.prog 68 #[colV A n a B m b c] w (RetInt (grpErr c.base c.grps) w):=by
 obtain ⟨ents,gs,base,second,third⟩:=c
 obtain ⟨_,hG,hn,hm,hs⟩:=h
 dsimp only at hG hn hm hs hb65
 subst hm
 unfold colV
 dsimp only
 have HS:=Lib.hid (fun i (hi:i < gs.length)=>hs gs[i] (List.getElem_mem hi))
 have HG:=Lib.hid hG
 have hmm:=@run_makeMap Tryz.prog
 clear hs hG hn
 go_enter Tryz.func68,Tryz.ntmps68
 go_wp2
 have B0:Below w.heap.size w (w.alloc (.cells #[.slice A n a,.slice B gs.length b,.int .i64 base,.int .i64 second,.int .i64 third] 32)):=(Below.refl _ _).alloc (Nat.le_refl _) _
 have s0:(w.alloc (.cells #[.slice A n a,.slice B gs.length b,.int .i64 base,.int .i64 second,.int .i64 third] 32)).heap.size=w.heap.size+1:=by simp
 have k1:(w.alloc (.cells #[.slice A n a,.slice B gs.length b,.int .i64 base,.int .i64 second,.int .i64 third] 32)).cell? ⟨w.heap.size,1,none⟩=some (.slice B gs.length b):=by simp
 have k2:(w.alloc (.cells #[.slice A n a,.slice B gs.length b,.int .i64 base,.int .i64 second,.int .i64 third] 32)).cell? ⟨w.heap.size,2,none⟩=some (.int .i64 base):=by simp
 obtain ⟨W0,hW0⟩:∃W0,w.alloc (.cells #[.slice A n a,.slice B gs.length b,.int .i64 base,.int .i64 second,.int .i64 third] 32)=W0:=⟨_,rfl⟩
 rw [hW0] at B0 s0 k1 k2 ⊢
 clear hW0
 have HG0:=Lib.hid (HG.out.below B0)
 have K:=Lib.hid (And.intro k1 k2)
 have S0:=Lib.hid s0
 have hx0:w.heap.size < W0.heap.size:=by omega
 clear HG k1 k2 s0
 go_loopw [4,15] (fun _ u wr=>∃i:Nat,i≤gs.length∧u=.int .i64 i∧(∀t,(ht:t < gs.length)→t < i→nameOk gs[t].name=true)∧Below W0.heap.size W0 wr) (fun _ u _=>gs.length - (intOf u).toNat)
 case atStart=>exact ⟨0,Nat.zero_le _,rfl,fun t _ h=>by omega,Below.refl _ _⟩
 case round=>
  obtain ⟨i,hi,rfl,h6,hb⟩:=hrel
  have H6:=Lib.hid h6;clear h6
  by_cases hlt:i < gs.length
  ·obtain ⟨b1,o1,rfl,hbl,hcell⟩:=(HG0.out.below hb).at hlt
   obtain ⟨c1,c2,c3⟩:=hcell i hlt
   have hss:=HS.out i hlt
   have HB:=Lib.hid (fun h=>grp6 (base:=base) hlt h)
   have HN:=Lib.hid (fun h=>all_up (P:=fun g=>nameOk g.name=true) hlt H6.out h)
   clear hcell
   generalize gs[i].name=nm at *
   generalize gs[i].lo=lo at *
   generalize gs[i].hi=hi' at *
   go_wp2_with fail
   refine (isName_any nm _ hss).mono ?_
   rintro e w1 ⟨rfl,rfl⟩
   cases hnm:nameOk nm
   ·go_wp2_with fail
    go_ret
    exact ⟨ret_int (HB.out hnm).symm,B0.trans ((hb.alloc hb.size _).mono B0.size)⟩
   ·go_wp2_with fail
    go_roundw
    case rel=>exact ⟨i+1,by omega,by go_num,HN.out hnm,hb.alloc hb.size _⟩
    case measure=>simp [intOf];omega
  ·have H6':=Lib.hid (fun t (ht:t < gs.length)=>H6.out t ht (by omega))
   clear H6
   have f1:=(hb.cell (p:=⟨w.heap.size,1,none⟩) hx0).trans K.out.1
   have hx1:w.heap.size < wr.heap.size:=by have:=hb.size;omega
   go_wp2
   have hM0:=MapIs.made Tryz.prog 9 skey sok wr
   have hb1:=hb.alloc hb.size (.map #[] 0)
   obtain ⟨mb,hmb⟩:∃mb,wr.heap.size=mb:=⟨_,rfl⟩
   rw [hmb] at hM0 ⊢
   have hmb0:W0.heap.size≤mb:=by have:=hb.size;omega
   obtain ⟨W1,hW1⟩:∃W1,wr.alloc (.map #[] 0)=W1:=⟨_,rfl⟩
   rw [hW1] at hM0 hb1 ⊢
   clear hW1 hmb hb f1 hx1
   go_loopw [7,28] (fun _ u wr=>∃i:Nat,i≤gs.length∧u=.int .i64 i∧(nms gs i).Nodup∧MapS Tryz.prog 9 wr mb i (setF (nms gs i))∧Below W0.heap.size W0 wr) (fun _ u _=>gs.length - (intOf u).toNat)
   case atStart=>exact ⟨0,Nat.zero_le _,rfl,by simp [nms],hM0.ext (fun x _=>by simp [nms,setF]),hb1⟩
   case round=>
    obtain ⟨i,hi,rfl,h5,hM,hb⟩:=hrel
    have H5:=Lib.hid h5;clear h5
    have HM:=Lib.hid hM;clear hM
    by_cases hlt:i < gs.length
    ·obtain ⟨b1,o1,rfl,hbl,hcell⟩:=(HG0.out.below hb).at hlt
     obtain ⟨c1,c2,c3⟩:=hcell i hlt
     have hss:=HS.out i hlt
     have HB:=Lib.hid (fun h=>grp5 (base:=base) H6'.out (nms_dup hlt h))
     have HN:=Lib.hid (fun h=>nms_nodup hlt H5.out h)
     have HE:=Lib.hid (nms_succ hlt)
     clear hcell
     generalize gs[i].name=nm at *
     generalize gs[i].lo=lo at *
     generalize gs[i].hi=hi' at *
     by_cases hin:nm ∈ nms gs i
     ·have HV:=Lib.hid (setF_yes hin)
      go_wp2_with (at_lookup;refine wpList_look rfl _ _ 184 rfl (HM.out.alloc _) law_str Tryz.underlying184 (zero_bool _) rfl rfl (sok_of hss) (key_str hss) ?_;rw [HV.out])
      go_ret
      exact ⟨ret_int (HB.out hin).symm,B0.trans ((hb.alloc hb.size _).mono B0.size)⟩
     ·have HV:=Lib.hid (setF_no hin)
      have HP:=Lib.hid (fun x=>setF_put (nms gs i) nm x)
      go_wp2_with (first
       | (at_lookup;refine wpList_look rfl _ _ 184 rfl (HM.out.alloc _) law_str Tryz.underlying184 (zero_bool _) rfl rfl (sok_of hss) (key_str hss) ?_;rw [HV.out])
       | (at_mapUpdate;refine wpList_mput rfl _ _ _ 184 rfl (HM.out.alloc _) law_str Tryz.underlying184 (by unfold maxLen;omega) rfl rfl rfl (sok_of hss) (key_str hss) (fun y _ e=>skey_inj e) ?_;intro w9 hM9 hg9))
      have hb9:=below_grown (hb.alloc hb.size (.cells #[.string nm,.int .i64 lo,.int .i64 hi'] 98)) hg9 hmb0 (by have:=hb.size;simp;omega)
      have HM9:=Lib.hid hM9
      clear hM9 hg9
      go_roundw
      case rel=>exact ⟨i+1,by omega,by go_num,HN.out hin,by rw [HE.out];exact HM9.out.ext (fun x _=>HP.out x),hb9⟩
      case measure=>simp [intOf];omega
    ·have H5':=Lib.hid (show (gs.map Grp.name).Nodup by rw [←nms_all,show gs.length=i by omega];exact H5.out)
     clear H5 HM
     have f1:=(hb.cell (p:=⟨w.heap.size,1,none⟩) hx0).trans K.out.1
     go_wp2
     clear f1
     go_loopw [9,43] (fun _ u wr=>∃i:Nat,i≤gs.length∧u=.int .i64 i∧(∀t,(ht:t < gs.length)→t < i→¬badG base gs[t])∧Below W0.heap.size W0 wr) (fun _ u _=>gs.length - (intOf u).toNat)
     case atStart=>exact ⟨0,Nat.zero_le _,rfl,fun t _ h=>by omega,hb⟩
     case round=>
      obtain ⟨i,hi,rfl,h1,hb⟩:=hrel
      have H1:=Lib.hid h1;clear h1
      have hx1:w.heap.size < wr.heap.size:=by have:=hb.size;omega
      by_cases hlt:i < gs.length
      ·obtain ⟨b1,o1,rfl,hbl,hcell⟩:=(HG0.out.below hb).at hlt
       obtain ⟨c1,c2,c3⟩:=hcell i hlt
       have f2:=(hb.cell (p:=⟨w.heap.size,2,none⟩) hx0).trans K.out.2
       have HD:=Lib.hid (show badG base gs[i] ↔ (gs[i].lo < 1∨gs[i].hi < gs[i].lo∨base≤gs[i].hi) from Iff.rfl)
       have HB:=Lib.hid (fun h=>grp1 (base:=base) H6'.out H5'.out hlt h)
       have HN:=Lib.hid (fun h=>all_up (P:=fun g=>¬badG base g) hlt H1.out h)
       clear hcell
       generalize badG base gs[i]=Bd at *
       generalize gs[i].name=nm at *
       generalize gs[i].lo=lo at *
       generalize gs[i].hi=hi' at *
       go_wp2
       all_goals first
        | (go_ret
           exact ⟨ret_int (HB.out (HD.out.2 (by omega))).symm,B0.trans ((hb.alloc hb.size _).mono B0.size)⟩)
        | (go_roundw
           case rel=>exact ⟨i+1,by omega,by go_num,HN.out (fun h=>by have:=HD.out.1 h;omega),hb.alloc hb.size _⟩
           case measure=>simp [intOf];omega)
      ·have H1':=Lib.hid (fun t (ht:t < gs.length)=>H1.out t ht (by omega))
       clear H1
       have f1:=(hb.cell (p:=⟨w.heap.size,1,none⟩) hx0).trans K.out.1
       go_wp2
       clear f1
       go_loopw [10,11,68] (fun _ _ u wr=>∃i:Nat,i≤gs.length∧u=.int .i64 i∧(∀t,(ht:t+1 < gs.length)→t+1 < i→gs[t+1].lo=gs[t].hi+1)∧Below W0.heap.size W0 wr) (fun _ _ u _=>gs.length - (intOf u).toNat)
       case atStart=>exact ⟨0,Nat.zero_le _,rfl,fun t _ h=>by omega,hb⟩
       case round=>
        obtain ⟨i,hi,rfl,h4,hb⟩:=hrel
        have H4:=Lib.hid h4;clear h4
        have hx1:w.heap.size < wr.heap.size:=by have:=hb.size;omega
        by_cases hlt:i < gs.length
        ·obtain ⟨b1,o1,rfl,hbl,hcell⟩:=(HG0.out.below hb).at hlt
         obtain ⟨c1,c2,c3⟩:=hcell i hlt
         have f1:=(hb.cell (p:=⟨w.heap.size,1,none⟩) hx0).trans K.out.1
         by_cases hp:0 < i
         ·have hp1:i - 1 < gs.length:=by omega
          have d3:=(hcell (i - 1) hp1).2.2
          have HX:=H1'.out (i - 1) hp1
          unfold badG at HX
          have e1:i - 1+1=i:=by omega
          have HB:=Lib.hid (fun (h:gs[i].lo≠(gs[i - 1]'hp1).hi+1)=>grp4 (base:=base) H6'.out H5'.out H1'.out (k:=i - 1) (by omega) (by simpa only [e1] using h))
          have HN:=Lib.hid (fun (h:gs[i].lo=(gs[i - 1]'hp1).hi+1)=>show ∀t,(ht:t+1 < gs.length)→t+1 < i+1→gs[t+1].lo=gs[t].hi+1 from fun t ht g=>by
           by_cases e:t+1 < i
           ·exact H4.out t ht e
           ·obtain rfl:t=i - 1:=by omega
            simpa only [e1] using h)
          have hz:1≤(gs[i - 1]'hp1).hi∧(gs[i - 1]'hp1).hi < 65502:=by omega
          clear hcell e1 HX
          generalize gs[i].name=nm at *
          generalize gs[i].lo=lo at *
          generalize gs[i].hi=hi' at *
          generalize (gs[i - 1]'hp1).hi=ph at *
          have i1:(0:Int)≤(i:Int) - 1:=by omega
          have i2:(i:Int) - 1 < (gs.length:Int):=by omega
          have i3:((i:Int) - 1).toNat=i - 1:=by omega
          have w1:IntKind.i64.wrap ((i:Int) - 1)=(i:Int) - 1:=IntWalk.i64_in _ (by omega)
          have w2:IntKind.i64.wrap (ph+1)=ph+1:=IntWalk.i64_in _ (by omega)
          by_cases hq:lo=ph+1
          ·have q1:(lo != ph+1)=false:=by simpa using hq
           have HQ:=Lib.hid (HN.out hq)
           clear hq HN HB
           go_wp2_with fail
           go_quiet (fail)
           clear i3 w1 w2
           go_wp2_with fail
           go_roundw
           case rel=>exact ⟨i+1,by omega,by go_num,HQ.out,⟨hb.os,hb.tape,hb.output,(hb.alloc hb.size _).size,(hb.alloc hb.size _).block⟩⟩
           case measure=>simp [intOf];omega
          ·have q1:(lo != ph+1)=true:=by simpa using hq
           have HQ:=Lib.hid (HB.out hq)
           clear hq HN HB
           go_wp2_with fail
           go_quiet (fail)
           clear i3 w1 w2
           go_wp2_with fail
           go_ret
           exact ⟨ret_int HQ.out.symm,B0.trans (Below.mono ⟨hb.os,hb.tape,hb.output,(hb.alloc hb.size _).size,(hb.alloc hb.size _).block⟩ B0.size)⟩
         ·have hp0:decide ((0:Int) < (i:Int))=false:=by simp;omega
          have HQ:=Lib.hid (show ∀t,(ht:t+1 < gs.length)→t+1 < i+1→gs[t+1].lo=gs[t].hi+1 from fun t ht g=>by omega)
          clear hcell
          generalize gs[i].name=nm at *
          generalize gs[i].lo=lo at *
          generalize gs[i].hi=hi' at *
          go_wp2_with fail
          go_quiet (fail)
          go_wp2_with fail
          go_roundw
          case rel=>exact ⟨i+1,by omega,by go_num,HQ.out,⟨hb.os,hb.tape,hb.output,(hb.alloc hb.size _).size,(hb.alloc hb.size _).block⟩⟩
          case measure=>simp [intOf];omega
        ·have HF:=Lib.hid (grp0 (base:=base) H6'.out H5'.out H1'.out (fun t ht=>H4.out t ht (by omega)))
         go_wp2
         go_ret
         exact ⟨ret_int HF.out.symm,B0.trans (hb.mono B0.size)⟩
end Go.Proofs.YtkhmjidaeliccaaGreatDoor
namespace Go.Proofs.YtkhmjidaeliccaaGreatDoor
open Go.RowKit Go.Maps Go.WideMaps
end Go.Proofs.YtkhmjidaeliccaaGreatDoor
namespace Go.Proofs.YtkhmjidaeliccaaGreatDoor
open Go.RowKit Go.Maps Go.WideMaps
section
variable {base:Int} {x:Ent}
theorem firstErr_at {α:Type} {f:α→Int} {l:List α} {k:Nat} (hk:k < l.length) (h0:∀t,(ht:t < l.length)→t < k→f l[t]=0) (h:f l[k]≠0):firstErr (l.map f)=f l[k]:=by
 induction l generalizing k with
 | nil=>simp at hk
 | cons a r ih=>
  cases k with
  | zero=>
   simp only [List.getElem_cons_zero] at *
   simp [firstErr,h]
  | succ k=>
   have:=h0 0 (by simp) (by omega)
   simp only [List.getElem_cons_zero] at this
   simp only [List.map_cons,firstErr,this,if_true,List.getElem_cons_succ]
   exact ih (by simpa using hk) (fun t ht h9=>by have:=h0 (t+1) (by simpa using ht) (by omega);simpa using this) (by simpa using h)
theorem firstErr_zero {α:Type} {f:α→Int} {l:List α} (h0:∀t,(ht:t < l.length)→f l[t]=0):firstErr (l.map f)=0:=by
 induction l with
 | nil=>rfl
 | cons a r ih=>
  have:=h0 0 (by simp)
  simp only [List.getElem_cons_zero] at this
  simp only [List.map_cons,firstErr,this,if_true]
  exact ih fun t ht=>by have:=h0 (t+1) (by simpa using ht);simpa using this
def szBad (x:Ent):Prop:=x.codes.length < 1∨8 < x.codes.length∨16 < x.elems.length
theorem ent2 (h:szBad x):entErr1 base x=2:=by unfold szBad at h;unfold entErr1;rw [if_pos h]
theorem ent1 (h:¬szBad x) {k:Nat} (hk:k < x.codes.length) (hc:inR 0 1114111 x.codes[k]=false):entErr1 base x=1:=by
 unfold szBad at h
 unfold entErr1
 rw [if_neg h,if_pos (anyT hk (by simpa using inR_false.1 hc))]
theorem codes_ok (h:∀t,(ht:t < x.codes.length)→inR 0 1114111 x.codes[t]=true):x.codes.any (fun c=>decide (c < 0∨1114111 < c))=false:=anyF fun t ht=>by
 have:=inR_iff.1 (h t ht)
 simp;omega
theorem entE (h:¬szBad x) (hc:∀t,(ht:t < x.codes.length)→inR 0 1114111 x.codes[t]=true) {k:Nat} (hk:k < x.elems.length) (h0:∀t,(ht:t < x.elems.length)→t < k→eltErr x.elems[t]=0) (he:eltErr x.elems[k]≠0):entErr1 base x=eltErr x.elems[k]:=by
 unfold szBad at h
 unfold entErr1
 rw [if_neg h,if_neg (by rw [codes_ok hc];simp),firstErr_at hk h0 he,if_pos he]
theorem entP (h:¬szBad x) (hc:∀t,(ht:t < x.codes.length)→inR 0 1114111 x.codes[t]=true) (h0:∀t,(ht:t < x.elems.length)→eltErr x.elems[t]=0) {k:Nat} (hk:k < x.elems.length) (he:base≤x.elems[k].p):entErr1 base x=1:=by
 unfold szBad at h
 unfold entErr1
 rw [if_neg h,if_neg (by rw [codes_ok hc];simp),firstErr_zero h0,if_neg (by simp),if_pos (anyT hk (by simpa using he))]
theorem ent0 (h:¬szBad x) (hc:∀t,(ht:t < x.codes.length)→inR 0 1114111 x.codes[t]=true) (h0:∀t,(ht:t < x.elems.length)→eltErr x.elems[t]=0) (he:∀t,(ht:t < x.elems.length)→¬base≤x.elems[t].p):entErr1 base x=0:=by
 unfold szBad at h
 unfold entErr1
 rw [if_neg h,if_neg (by rw [codes_ok hc];simp),firstErr_zero h0,if_neg (by simp),if_neg (by rw [anyF fun t ht=>by simpa using he t ht];simp)]
end
theorem ckEntry_any (C:Option Addr) (c:Nat) (E:Option Addr) (d:Nat) (x:Ent) (base:Int) (w:World) (hC:Ints w C x.codes) (hE:Elts w E x.elems) (h1:x.codes.length≤1048576) (h2:x.elems.length≤1048576) :
  Calls Tryz.prog 69 #[.agg #[.slice C x.codes.length c,.slice E x.elems.length d],.int .i64 base] w (RetInt (entErr1 base x) w):=by
 have HSZ:=Lib.hid (show szBad x ↔ (x.codes.length < 1∨8 < x.codes.length∨16 < x.elems.length) from Iff.rfl)
 have HC:=Lib.hid hC;have HE:=Lib.hid hE
 have B0:Below w.heap.size w (w.alloc (.cells #[.slice C x.codes.length c,.slice E x.elems.length d] 75)):=(Below.refl _ _).alloc (Nat.le_refl _) _
 clear hC hE
 by_cases hsz:x.codes.length < 1∨8 < x.codes.length∨16 < x.elems.length
 ·have HQ:=Lib.hid (ent2 (base:=base) (HSZ.out.2 hsz))
  generalize entErr1 base x=R at *
  obtain hsz | ⟨g1,hsz⟩ | ⟨g1,g2,hsz⟩:x.codes.length < 1∨(¬x.codes.length < 1∧8 < x.codes.length)∨(¬x.codes.length < 1∧¬8 < x.codes.length∧16 < x.elems.length):=by omega
  all_goals
   go_enter Tryz.func69,Tryz.ntmps69
   go_wp2
   go_ret
   exact ⟨ret_int HQ.out.symm,B0⟩
 ·have HSZN:=Lib.hid (fun h=>hsz (HSZ.out.1 h))
  have z1:¬x.codes.length < 1:=by omega
  have z2:¬8 < x.codes.length:=by omega
  have z3:¬16 < x.elems.length:=by omega
  clear hsz HSZ
  go_enter Tryz.func69,Tryz.ntmps69
  go_wp2
  have s0:(w.alloc (.cells #[.slice C x.codes.length c,.slice E x.elems.length d] 75)).heap.size=w.heap.size+1:=by simp
  have k1:(w.alloc (.cells #[.slice C x.codes.length c,.slice E x.elems.length d] 75)).cell? ⟨w.heap.size,1,none⟩=some (.slice E x.elems.length d):=by simp
  obtain ⟨W0,hW0⟩:∃W0,w.alloc (.cells #[.slice C x.codes.length c,.slice E x.elems.length d] 75)=W0:=⟨_,rfl⟩
  rw [hW0] at B0 s0 k1 ⊢
  clear hW0
  have HC0:=Lib.hid (HC.out.below B0);have HE0:=Lib.hid (HE.out.below B0)
  have K:=Lib.hid k1
  have hx0:w.heap.size < W0.heap.size:=by omega
  clear HC HE k1 s0
  go_loop [6,31] (fun _ u=>∃i:Nat,i≤x.codes.length∧u=.int .i64 i∧(∀t,(ht:t < x.codes.length)→t < i→inR 0 1114111 x.codes[t]=true)) (fun _ u=>x.codes.length - (intOf u).toNat)
  case atStart=>exact ⟨0,Nat.zero_le _,rfl,fun t _ h=>by omega⟩
  case round=>
   obtain ⟨i,hi,rfl,g1⟩:=hrel
   have G1:=Lib.hid g1;clear g1
   by_cases hlt:i < x.codes.length
   ·obtain ⟨b1,o1,rfl,hcell⟩:=HC0.out.at hlt
    have c1:=hcell i hlt
    have HB:=Lib.hid (fun h=>ent1 (base:=base) HSZN.out hlt h)
    have HN:=Lib.hid (fun h=>all_up (P:=fun c=>inR 0 1114111 c=true) hlt G1.out h)
    clear hcell
    generalize x.codes[i]=cd at *
    go_wp2_with fail
    refine (cpValid_any cd _).mono ?_
    rintro e w1 ⟨rfl,rfl⟩
    cases hv:inR 0 1114111 cd
    ·have HQ:=Lib.hid (HB.out hv)
     go_wp2_with fail
     go_ret
     exact ⟨ret_int HQ.out.symm,B0⟩
    ·have HQ:=Lib.hid (HN.out hv)
     go_wp2_with fail
     go_round
     case rel=>exact ⟨i+1,by omega,by go_num,HQ.out⟩
     case measure=>simp [intOf];omega
   ·have G1':=Lib.hid (fun t (ht:t < x.codes.length)=>G1.out t ht (by omega))
    clear G1
    have f1:=K.out
    go_wp2
    clear f1
    go_loopw [8,9,42] (fun _ _ u wr=>∃i:Nat,i≤x.elems.length∧u=.int .i64 i∧(∀t,(ht:t < x.elems.length)→t < i→eltErr x.elems[t]=0)∧Below W0.heap.size W0 wr) (fun _ _ u _=>x.elems.length - (intOf u).toNat)
    case atStart=>exact ⟨0,Nat.zero_le _,rfl,fun t _ h=>by omega,Below.refl _ _⟩
    case round=>
     obtain ⟨i,hi,rfl,g2,hb⟩:=hrel
     have G2:=Lib.hid g2;clear g2
     by_cases hlt:i < x.elems.length
     ·obtain ⟨b1,o1,rfl,hbl,hcell⟩:=(HE0.out.below hb).at hlt
      obtain ⟨c1,c2,c3,c4⟩:=hcell i hlt
      have HB:=Lib.hid (fun h=>entE (base:=base) HSZN.out G1'.out hlt G2.out h)
      have HN:=Lib.hid (fun h=>all_up (P:=fun e=>eltErr e=0) hlt G2.out h)
      have CE:=Lib.hid (fun W=>eltCheck_any x.elems[i] W)
      clear hcell
      generalize eltErr x.elems[i]=ev at *
      generalize x.elems[i].p=p at *
      generalize x.elems[i].s=s at *
      generalize x.elems[i].t=t at *
      generalize x.elems[i].v=v at *
      go_wp2_with fail
      refine (CE.out _).mono ?_
      rintro e w1 ⟨rfl,hb1⟩
      have hb2:=(hb.alloc hb.size (.cells #[.int .i64 p,.int .i64 s,.int .i64 t,.bool v] 77)).trans (hb1.mono (by have:=hb.size;simp;omega))
      clear hb1 c1 c2 c3 c4
      by_cases hz:ev=0
      ·have q1:(ev != 0)=false:=by simpa using hz
       have HQ:=Lib.hid (HN.out hz)
       clear hz HB HN
       go_wp2_with fail
       go_roundw
       case rel=>exact ⟨i+1,by omega,by go_num,HQ.out,hb2⟩
       case measure=>simp [intOf];omega
      ·have q1:(ev != 0)=true:=by simpa using hz
       have HQ:=Lib.hid (HB.out hz)
       clear hz HB HN
       go_wp2_with fail
       go_ret
       exact ⟨ret_int HQ.out.symm,B0.trans (hb2.mono B0.size)⟩
     ·have G2':=Lib.hid (fun t (ht:t < x.elems.length)=>G2.out t ht (by omega))
      clear G2
      have f1:=(hb.cell (p:=⟨w.heap.size,1,none⟩) hx0).trans K.out
      go_wp2
      clear f1
      go_loopw [11,55] (fun _ u wr=>∃i:Nat,i≤x.elems.length∧u=.int .i64 i∧(∀t,(ht:t < x.elems.length)→t < i→¬base≤x.elems[t].p)∧Below W0.heap.size W0 wr) (fun _ u _=>x.elems.length - (intOf u).toNat)
      case atStart=>exact ⟨0,Nat.zero_le _,rfl,fun t _ h=>by omega,hb⟩
      case round=>
       obtain ⟨i,hi,rfl,g3,hb⟩:=hrel
       have G3:=Lib.hid g3;clear g3
       by_cases hlt:i < x.elems.length
       ·obtain ⟨b1,o1,rfl,hbl,hcell⟩:=(HE0.out.below hb).at hlt
        obtain ⟨c1,c2,c3,c4⟩:=hcell i hlt
        have HB:=Lib.hid (fun h=>entP (base:=base) HSZN.out G1'.out G2'.out hlt h)
        have HN:=Lib.hid (fun h=>all_up (P:=fun e=>¬base≤e.p) hlt G3.out h)
        clear hcell
        generalize x.elems[i].p=p at *
        generalize x.elems[i].s=s at *
        generalize x.elems[i].t=t at *
        generalize x.elems[i].v=v at *
        by_cases hz:base≤p
        ·have HQ:=Lib.hid (HB.out hz)
         clear HB HN
         go_wp2
         go_ret
         exact ⟨ret_int HQ.out.symm,B0.trans ((hb.alloc hb.size _).mono B0.size)⟩
        ·have HQ:=Lib.hid (HN.out hz)
         clear HB HN
         go_wp2
         go_roundw
         case rel=>exact ⟨i+1,by omega,by go_num,HQ.out,hb.alloc hb.size _⟩
         case measure=>simp [intOf];omega
       ·have HQ:=Lib.hid (ent0 (base:=base) HSZN.out G1'.out G2'.out (fun t ht=>G3.out t ht (by omega)))
        go_wp2
        go_ret
        exact ⟨ret_int HQ.out.symm,B0.trans (hb.mono B0.size)⟩
end Go.Proofs.YtkhmjidaeliccaaGreatDoor
namespace Go.Proofs.YtkhmjidaeliccaaGreatDoor
open Go.RowKit
theorem Compare_any (A B:Option Addr) (n m c d:Nat) (xs ys:List Int) (w:World) (hA:Ints w A xs) (hB:Ints w B ys) (hn:xs.length=n) (hm:ys.length=m)
  (hn':n≤9223372036854775807) (hm':m≤9223372036854775807) :
  Calls Tryz.prog 26 #[.slice A n c,.slice B m d] w fun e w'=>e=.returned (.int .i64 (cmpL xs ys))∧Qt w w':=by
 subst hn hm
 go_enter Tryz.func26,Tryz.ntmps26
 go_wp2
 go_loopw [5] (fun i wr=>∃k:Nat,k≤xs.length∧k≤ys.length∧i=.int .i64 k∧Qt w wr∧cmpL xs ys=cmpL (xs.drop k) (ys.drop k)) (fun i _=>xs.length - (intOf i).toNat)
 case atStart=>exact ⟨0,Nat.zero_le _,Nat.zero_le _,rfl,Qt.refl _,rfl⟩
 case round=>
  obtain ⟨k,hk1,hk2,rfl,⟨q,rfl⟩,hcmp⟩:=hrel
  have HC:=Lib.hid hcmp;clear hcmp
  by_cases h1:k < xs.length
  ·by_cases h2:k < ys.length
   ·obtain ⟨b,o,rfl,hc⟩:=hA.at h1
    obtain ⟨b',o',rfl,hc'⟩:=hB.at h2
    have hx:=hc k h1
    have hy:=hc' k h2
    have HS:=Lib.hid (cmpL_drop xs ys k h1 h2)
    clear hc hc'
    generalize xs[k]=x at *
    generalize ys[k]=y at *
    by_cases hxy:x < y
    ·go_wp2
     go_quiet (fail)
     go_wp2
     go_ret
     exact ⟨ret_int (Eq.symm (by rw [HC.out,HS.out,if_pos hxy])),by repeat (first | exact Qt.refl _ | refine Qt.drewN ?_ _)⟩
    ·by_cases hyx:y < x
     ·go_wp2
      go_quiet (fail)
      go_wp2
      go_quiet (fail)
      go_wp2
      go_ret
      exact ⟨ret_int (Eq.symm (by rw [HC.out,HS.out,if_neg (show ¬x < y by omega),if_pos hyx])),by repeat (first | exact Qt.refl _ | refine Qt.drewN ?_ _)⟩
     ·go_wp2
      go_quiet (fail)
      go_wp2
      go_quiet (fail)
      go_wp2
      go_roundw
      case rel=>exact ⟨k+1,by omega,by omega,by go_num,by repeat (first | exact Qt.refl _ | refine Qt.drewN ?_ _),by rw [HC.out,HS.out,if_neg (show ¬x < y by omega),if_neg (show ¬y < x by omega)]⟩
      case measure=>simp [intOf];omega
   ·have HE:=Lib.hid (cmpL_end xs ys k (by omega) hk1 hk2)
    have hl:ys.length < xs.length:=by omega
    go_wp2
    go_ret
    exact ⟨ret_int (Eq.symm (by rw [HC.out,HE.out,if_neg (by omega),if_pos hl])),by repeat (first | exact Qt.refl _ | refine Qt.drewN ?_ _)⟩
  ·have HE:=Lib.hid (cmpL_end xs ys k (by omega) hk1 hk2)
   by_cases h2:k < ys.length
   ·go_wp2
    go_ret
    exact ⟨ret_int (Eq.symm (by rw [HC.out,HE.out,if_pos (by omega)])),by repeat (first | exact Qt.refl _ | refine Qt.drewN ?_ _)⟩
   ·go_wp2
    go_ret
    exact ⟨ret_int (Eq.symm (by rw [HC.out,HE.out,if_neg (by omega),if_neg (by omega)])),by repeat (first | exact Qt.refl _ | refine Qt.drewN ?_ _)⟩
theorem Equal_any (A B:Option Addr) (n m c d:Nat) (xs ys:List Int) (w:World) (hA:Ints w A xs) (hB:Ints w B ys) (hn:xs.length=n) (hm:ys.length=m)
  (hn':n≤9223372036854775807) (hm':m≤9223372036854775807) :
  Calls Tryz.prog 80 #[.slice A n c,.slice B m d] w fun e w'=>e=.returned (.bool (decide (xs=ys)))∧Qt w w':=by
 have hd:decide (xs=ys)=(cmpL xs ys==0):=by
  rw [Bool.eq_iff_iff];simp [cmpL_eq_zero]
 rw [hd];clear hd
 have HC:=Lib.hid (Compare_any A B n m c d xs ys w hA hB hn hm hn' hm')
 clear hA hB hn hm
 go_enter Tryz.func80,Tryz.ntmps80
 go_wp2_with (go_at_call 26;refine HC.out.mono ?_;rintro e w' ⟨rfl,q,rfl⟩)
 go_ret
 exact ⟨rfl,by repeat (first | exact Qt.refl _ | refine Qt.drewN ?_ _)⟩
end Go.Proofs.YtkhmjidaeliccaaGreatDoor
