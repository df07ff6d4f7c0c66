/- Texts that are merged into one file: MadeAny, DtxIok, RefFind, CmpPlain, TabPlain, MtcParts, TElems, SkKey, PackPlain. -/
import Derived.Test.YtijgbonhjcblcaaGreatDoorM01
import Derived.Test.YtijgbonhjcblcaaGreatDoorM11
import Derived.Test.YtijgbonhjcblcaaGreatDoorM17
import Derived.Test.YtijgbonhjcblcaaGreatDoorM18
import Derived.Test.YtijgbonhjcblcaaGreatDoorM19
import Derived.Test.YtijgbonhjcblcaaGreatDoorM20
import Derived.Test.YtijgbonhjcblcaaGreatDoorM21
import Derived.Deep.Cut
set_option maxRecDepth 100000
set_option maxHeartbeats 51200000
namespace Go.Proofs.YtijgbonhjcblcaaGreatDoor
open Go.RowKit Go.Maps Go.WideMaps
def colB:Col:=⟨[],[],64448,32,2⟩
theorem colB_ok:colErr colB=0:=by
 decide
theorem colD_good {c:Col} (h:colErr c=0):colD c=c:=if_pos h
theorem colD_bad {c:Col} (h:¬colErr c=0):colD c=colB:=if_neg h
theorem colD_ok (c:Col):colErr (colD c)=0:=by
 by_cases h:colErr c=0
 ·rw [colD_good h];exact h
 ·rw [colD_bad h];exact colB_ok
theorem made_bad (A:Option Addr) (n a:Nat) (B:Option Addr) (m b:Nat) (c:Col) (w:World) (h:ColAt w A n B m c) (hz:ColSz c) (he:¬colErr c=0) :
  Calls Tryz.prog 68 #[colV A n a B m b c] w (RetTab colB w):=by
 have B0:Below w.heap.size w (w.alloc (.cells #[.slice A n a,.slice B m b,.int .i64 c.base,.int .i64 c.second,.int .i64 c.third] 32)):=(Below.refl _ _).alloc (Nat.le_refl _) _
 have X0:Box (w.alloc (.cells #[.slice A n a,.slice B m b,.int .i64 c.base,.int .i64 c.second,.int .i64 c.third] 32)) w.heap.size 32 [.slice A n a,.slice B m b,.int .i64 c.base,.int .i64 c.second,.int .i64 c.third]:=Box.new w 32 [.slice A n a,.slice B m b,.int .i64 c.base,.int .i64 c.second,.int .i64 c.third] rfl
 have W0E:∃W0,w.alloc (.cells #[.slice A n a,.slice B m b,.int .i64 c.base,.int .i64 c.second,.int .i64 c.third] 32)=W0:=⟨_,rfl⟩
 have CK:=Lib.hid (fun W (hb:Below w.heap.size w W)=>ckColl_any A n a B m b c W (h.below hb) hz)
 have hmm:=@run_makeMap Tryz.prog
 clear h hz
 generalize colErr c=er at *
 have q:(er != 0)=true:=by simpa using he
 clear he
 unfold colV at *
 generalize c.base=u2 at *
 generalize c.second=u3 at *
 generalize c.third=u4 at *
 clear c
 go_enter Tryz.func68,Tryz.ntmps68
 go_wp2_with fail
 obtain ⟨W0,hW0⟩:=W0E
 rw [hW0] at B0 X0 ⊢
 clear hW0
 have k0:=X0.cell (i:=0) rfl
 have k1:=X0.cell (i:=1) rfl
 have k2:=X0.cell (i:=2) rfl
 have k3:=X0.cell (i:=3) rfl
 have k4:=X0.cell (i:=4) rfl
 have hx0:=X0.lt
 go_wp2_with fail
 with_reducible refine (CK.out W0 B0).mono ?_
 rintro e W1 ⟨rfl,hb1⟩
 clear CK k0 k1 k2 k3 k4
 have hb2:=B0.trans (hb1.mono B0.size)
 have X1:=X0.below hb1 hx0
 have f0:=X1.free 0
 have f1:=X1.free 1
 have f2:=X1.free 2
 have f3:=X1.free 3
 have f4:=X1.free 4
 have e0:=X1.cell (i:=0) rfl
 have e1:=X1.cell (i:=1) rfl
 have e2:=X1.cell (i:=2) rfl
 have e3:=X1.cell (i:=3) rfl
 have e4:=X1.cell (i:=4) rfl
 have X5:Box (((((W1.setCell ⟨w.heap.size,0,none⟩ (.slice none 0 0)).setCell ⟨w.heap.size,1,none⟩ (.slice none 0 0)).setCell ⟨w.heap.size,2,none⟩ (.int .i64 64448)).setCell ⟨w.heap.size,3,none⟩ (.int .i64 32)).setCell ⟨w.heap.size,4,none⟩ (.int .i64 2)) w.heap.size 32 [.slice none 0 0,.slice none 0 0,.int .i64 64448,.int .i64 32,.int .i64 2]:=((((X1.set 0 _).set 1 _).set 2 _).set 3 _).set 4 _
 have B5:Below w.heap.size w (((((W1.setCell ⟨w.heap.size,0,none⟩ (.slice none 0 0)).setCell ⟨w.heap.size,1,none⟩ (.slice none 0 0)).setCell ⟨w.heap.size,2,none⟩ (.int .i64 64448)).setCell ⟨w.heap.size,3,none⟩ (.int .i64 32)).setCell ⟨w.heap.size,4,none⟩ (.int .i64 2)):=((((hb2.setCell (by simp) _).setCell (by simp) _).setCell (by simp) _).setCell (by simp) _).setCell (by simp) _
 have W5E:∃W5,(((((W1.setCell ⟨w.heap.size,0,none⟩ (.slice none 0 0)).setCell ⟨w.heap.size,1,none⟩ (.slice none 0 0)).setCell ⟨w.heap.size,2,none⟩ (.int .i64 64448)).setCell ⟨w.heap.size,3,none⟩ (.int .i64 32)).setCell ⟨w.heap.size,4,none⟩ (.int .i64 2))=W5:=⟨_,rfl⟩
 go_upto_region 3 with (fail)
 obtain ⟨W5,hW5⟩:=W5E
 rw [hW5] at B5 X5 ⊢
 clear hW5 f0 f1 f2 f3 f4 e0 e1 e2 e3 e4 X1
 have k0:=X5.cell (i:=0) rfl
 have k1:=X5.cell (i:=1) rfl
 have k2:=X5.cell (i:=2) rfl
 have k3:=X5.cell (i:=3) rfl
 have k4:=X5.cell (i:=4) rfl
 have hx5:=X5.lt
 have hx6:¬w.heap.size=W5.heap.size:=by omega
 have hx7:¬w.heap.size=W5.heap.size+1:=by omega
 have B2:Below W5.heap.size W5 ((W5.alloc (.map #[] 0)).alloc (.cells #[.slice none 0 0,.slice none 0 0,.int .i64 64448,.int .i64 32,.int .i64 2,.map (some W5.heap.size),.int .i64 0,.slice none 0 0,.int .i64 0] 156)):=((Below.refl _ _).alloc (Nat.le_refl _) _).alloc (by simp) _
 have X2:Box ((W5.alloc (.map #[] 0)).alloc (.cells #[.slice none 0 0,.slice none 0 0,.int .i64 64448,.int .i64 32,.int .i64 2,.map (some W5.heap.size),.int .i64 0,.slice none 0 0,.int .i64 0] 156)) (W5.heap.size+1) 156 (tabCells none 0 0 none 0 0 colB W5.heap.size (longE colB.ents) (.slice none 0 0) 0):=Box.new _ _ _ (by simp)
 have M2:MapIs Tryz.prog 158 klit kok ((W5.alloc (.map #[] 0)).alloc (.cells #[.slice none 0 0,.slice none 0 0,.int .i64 64448,.int .i64 32,.int .i64 2,.map (some W5.heap.size),.int .i64 0,.slice none 0 0,.int .i64 0] 156)) W5.heap.size 0 (fun _=>none):=(MapIs.made Tryz.prog _ klit kok W5).alloc _
 have W2E:∃W2,((W5.alloc (.map #[] 0)).alloc (.cells #[.slice none 0 0,.slice none 0 0,.int .i64 64448,.int .i64 32,.int .i64 2,.map (some W5.heap.size),.int .i64 0,.slice none 0 0,.int .i64 0] 156))=W2:=⟨_,rfl⟩
 have hsz:=B5.size
 go_wp2_with fail
 obtain ⟨W2,hW2⟩:=W2E
 rw [hW2] at B2 X2 M2 ⊢
 clear hW2 k0 k1 k2 k3 k4 hmm
 have HX2:=Lib.hid X2
 have HM2:=Lib.hid M2
 clear X2 M2
 go_loopw [17] (fun u wr=>u=.int .i64 0∧wr=W2) (fun u _=>0 - (intOf u).toNat)
 case atStart=>exact ⟨rfl,rfl⟩
 case round=>
  obtain ⟨rfl,rfl⟩:=hrel
  go_wp2_with fail
  go_ret
  exact ⟨_,rfl,by omega,⟨_,_,_,_,_,_,_,_,_,HX2.out,HM2.out,TabF.nil _⟩,B5.trans (B2.mono hsz)⟩
theorem made_any (A:Option Addr) (n a:Nat) (B:Option Addr) (m b:Nat) (c:Col) (w:World) (h:ColAt w A n B m c) (hz:ColSz c) :
  Calls Tryz.prog 68 #[colV A n a B m b c] w (RetTab (colD c) w):=by
 by_cases he:colErr c=0
 ·rw [colD_good he];exact made_ok A n a B m b c w h hz he
 ·rw [colD_bad he];exact made_bad A n a B m b c w h hz he
end Go.Proofs.YtijgbonhjcblcaaGreatDoor
namespace Go.Proofs.YtijgbonhjcblcaaGreatDoor
open Go.RowKit
theorem dtx_iok {x:Nrm} (compat:Bool) {t:List Int} (h:∀z ∈ t,iok z):∀z ∈ dtx x compat t,iok z:=fun z hz=>((fl_facts (usN_ok x) compat h).1 z hz).1
theorem dtx_len (x:Nrm) (compat:Bool) (t:List Int):(dtx x compat t).length≤64*t.length:=by
 unfold dtx
 rw [Can.srt_len]
 exact flM_len (usN_ok x) compat t
theorem usN_asc (x:Nrm):Asc (usN x).cls:=by
 unfold usN
 split
 ·next h=>exact asc_of_ok (nErr_ck6 h).1.c
 ·exact fun i j _ hj=>by simp at hj
end Go.Proofs.YtijgbonhjcblcaaGreatDoor
namespace Go.Proofs.YtijgbonhjcblcaaGreatDoor
open Go.RowKit Go.Maps Go.WideMaps
end Go.Proofs.YtijgbonhjcblcaaGreatDoor
namespace Go.Proofs.YtijgbonhjcblcaaGreatDoor
open Go.RowKit
theorem cmpL_vals:∀xs ys:List Int,cmpL xs ys=-1∨cmpL xs ys=0∨cmpL xs ys=1
 | [],[]=>.inr (.inl rfl)
 | [],_::_=>.inl rfl
 | _::_,[]=>.inr (.inr rfl)
 | a::p,b::q=>by
  simp only [cmpL]
  split
  ·exact .inl rfl
  ·split
   ·exact .inr (.inr rfl)
   ·exact cmpL_vals p q
theorem cmpL_lt_trans:∀{xs ys zs:List Int},cmpL xs ys < 0→cmpL ys zs < 0→cmpL xs zs < 0
 | [],[],_,h,_=>by simp [cmpL] at h
 | _::_,[],_,h,_=>by simp [cmpL] at h
 | _,_::_,[],_,h=>by simp [cmpL] at h
 | [],_::_,_::_,_,_=>by simp [cmpL]
 | a::_,b::_,c::_,h1,h2=>by
  simp only [cmpL] at *
  by_cases e1:a < b
  ·by_cases e2:b < c
   ·rw [if_pos (by omega)];omega
   ·rw [if_neg e2] at h2
    by_cases e3:c < b
    ·rw [if_pos e3] at h2;omega
    ·rw [if_pos (by omega)];omega
  ·rw [if_neg e1] at h1
   by_cases e4:b < a
   ·rw [if_pos e4] at h1;omega
   ·rw [if_neg e4] at h1
    by_cases e2:b < c
    ·rw [if_pos (by omega)];omega
    ·rw [if_neg e2] at h2
     by_cases e3:c < b
     ·rw [if_pos e3] at h2;omega
     ·rw [if_neg e3] at h2
      rw [if_neg (by omega),if_neg (by omega)]
      exact cmpL_lt_trans h1 h2
theorem cmpL_self (xs:List Int):cmpL xs xs=0:=(cmpL_eq_zero xs xs).2 rfl
end Go.Proofs.YtijgbonhjcblcaaGreatDoor
namespace Go.Proofs.YtijgbonhjcblcaaGreatDoor
open Go.RowKit
theorem col_grps {c:Col} (h:colErr c=0):grpErr c.base c.grps=0∧1≤c.base∧c.base≤65502∧(1≤c.second∧c.second≤65535)∧(1≤c.third∧c.third≤65535):=by
 unfold colErr at h
 split at h
 ·cases h
 ·next h0=>
  split at h
  ·next h1=>exact absurd h h1
  ·next h1=>
   have h2:inR 1 65535 c.second=true:=by cases hh:inR 1 65535 c.second <;> simp_all
   have h3:inR 1 65535 c.third=true:=by cases hh:inR 1 65535 c.third <;> simp_all
   exact ⟨by simpa using h1,by omega,by omega,inR_iff.1 h2,inR_iff.1 h3⟩
end Go.Proofs.YtijgbonhjcblcaaGreatDoor
namespace Go.Proofs.YtijgbonhjcblcaaGreatDoor.Mtc
open Go.RowKit
section
variable {E:Type} {cl:Int→Int} {ent:List Int→Option (List E)} {imp:Int→List E}
def partsF (cl:Int→Int) (ent:List Int→Option (List E)):Nat→List Int→List (List Int × Bool)
 | 0,_=>[]
 | _+1,[]=>[]
 | f+1,x::t=>((matched cl ent (x::t)).1,(matched cl ent (x::t)).2.2)::partsF cl ent f (matched cl ent (x::t)).2.1
def parts (cl:Int→Int) (ent:List Int→Option (List E)) (t:List Int):List (List Int × Bool):=partsF cl ent t.length t
theorem parts_ind {P:List Int→Prop} (cl:Int→Int) (ent:List Int→Option (List E)) (h0:P []) (h1:∀t,t≠[]→P (matched cl ent t).2.1→P t) (t:List Int):P t:=by
 have key:∀(n:Nat) (t:List Int),t.length≤n→P t:=by
  intro n
  induction n with
  | zero=>intro t h;obtain rfl:t=[]:=List.length_eq_zero_iff.1 (by omega);exact h0
  | succ n ih=>
   intro t h
   by_cases ht:t=[]
   ·rw [ht];exact h0
   ·have:=(matched_len (cl:=cl) (ent:=ent) ht).1
    exact h1 t ht (ih _ (by omega))
 exact key t.length t (Nat.le_refl _)
def known (cl:Int→Int) (ent:List Int→Option (List E)) (t:List Int):Bool:=(parts cl ent t).all (fun p=>p.2)
theorem grow_mem:∀(r part left:List Int) (hi:Int) (x:Int),x ∈ (grow cl ent part left hi r).1++(grow cl ent part left hi r).2 ↔ x ∈ part++left++r
 | [],part,left,hi,x=>by simp [grow]
 | y::r,part,left,hi,x=>by
  unfold grow
  split
  ·simp
  ·split
   ·rw [grow_mem r];simp only [List.mem_append,List.mem_cons,List.not_mem_nil,or_false]
    constructor
    ·rintro (((h | h) | h) | h) <;> simp [h]
    ·rintro ((h | h) | h | h) <;> simp [h]
   ·rw [grow_mem r];simp only [List.mem_append,List.mem_cons,List.not_mem_nil,or_false]
    constructor
    ·rintro ((h | h | h) | h) <;> simp [h]
    ·rintro ((h | h) | h | h) <;> simp [h]
theorem matched_mem {t:List Int} (x:Int):x ∈ (matched cl ent t).1++(matched cl ent t).2.1 ↔ x ∈ t:=by
 unfold matched
 split
 ·rw [List.take_append_drop]
 ·rw [grow_mem,List.append_nil,List.take_append_drop]
variable {F:Type} {ent':List Int→Option (List F)}
end
end Go.Proofs.YtijgbonhjcblcaaGreatDoor.Mtc
namespace Go.Proofs.YtijgbonhjcblcaaGreatDoor
open Go.RowKit Go.Maps Go.WideMaps
def slLen:Value→Nat
 | .slice _ n _=>n
 | _=>0
def elsN (x:Nrm) (c:Col) (t:List Int):List Elt:=Mtc.elems (cls (usN x).cls) (lastE (colD c).ents) (impE (colD c)) (dtx x false t)
structure EL (cl:Int→Int) (ent:List Int→Option (List Elt)) (imp:Int→List Elt) (els:List Elt) (tot:Nat) (b:Nat) (w1:World) (t:List Int) (A:Option Addr) (cap:Nat) (E:Option Addr) (k:Nat) (es:List Elt) (W:World):Prop where
 eq:es++Mtc.elems cl ent imp t=els
 own:W.ownsRow w1.heap.size 112 4 (.slice E es.length k) es.length (flatK Elt.cells es)
 gr:w1.grownBy W (some b)
 bd:es.length+16*t.length≤16*tot
 cp:t.length≤cap
 cm:cap≤9223372036854775807
 row:t≠[]→b < w1.heap.size∧∃off pre post,A=some ⟨b,off,none⟩∧Row W b off 3 pre post t
 io:∀z ∈ t,iok z
section
variable {cl:Int→Int} {ent:List Int→Option (List Elt)} {imp:Int→List Elt} {els:List Elt} {tot b:Nat} {w1:World} {t:List Int} {A:Option Addr} {cap:Nat} {E:Option Addr} {k:Nat} {es:List Elt} {W:World}
theorem EL.own_match (h:EL cl ent imp els tot b w1 t A cap E k es W) (ht:t≠[]) {W':World} (hg:W.grownBy W' (some b)):W'.ownsRow w1.heap.size 112 4 (.slice E es.length k) es.length (flatK Elt.cells es):=by
 refine h.own.kept hg ?_
 cases E with
 | none=>exact .inl rfl
 | some a=>
  right
  intro e
  have e':a.block=b:=by injection e
  rcases h.own.2 with ⟨hv,_⟩ | ⟨g,cp,cur,hv,h1,_⟩
  ·cases hv
  ·injection hv with hv
   injection hv with hv
   subst hv
   have:=(h.row ht).1
   dsimp only at e'
   omega
theorem EL.next (h:EL cl ent imp els tot b w1 t A cap E k es W) (ht:t≠[]) {off:Nat} {pre post:List Value} {W' W2:World} (hg:W.grownBy W' (some b)) (hp:(Mtc.ofPart ent imp (Mtc.matched cl ent t).1 (Mtc.matched cl ent t).2.2).length≤16) (hrow:A=some ⟨b,off,none⟩∧Row W' b off 3 pre post ((Mtc.matched cl ent t).1++(Mtc.matched cl ent t).2.1))
  {E':Option Addr} {k':Nat} (ho:W2.ownsRow w1.heap.size 112 4 (.slice E' (es.length+(Mtc.ofPart ent imp (Mtc.matched cl ent t).1 (Mtc.matched cl ent t).2.2).length) k') (es.length+(Mtc.ofPart ent imp (Mtc.matched cl ent t).1 (Mtc.matched cl ent t).2.2).length) (flatK Elt.cells es++flatK Elt.cells (Mtc.ofPart ent imp (Mtc.matched cl ent t).1 (Mtc.matched cl ent t).2.2))) (hb:Below w1.heap.size W' W2) :
  EL cl ent imp els tot b w1 (Mtc.matched cl ent t).2.1 (subA A cap (Mtc.matched cl ent t).1.length) (cap - (Mtc.matched cl ent t).1.length) E' k' (es++Mtc.ofPart ent imp (Mtc.matched cl ent t).1 (Mtc.matched cl ent t).2.2) W2:=by
 obtain ⟨hl1,hl2⟩:=Mtc.matched_len (cl:=cl) (ent:=ent) ht
 obtain ⟨hA,hrow⟩:=hrow
 have hcp:=h.cp
 have hcm:=h.cm
 have hbd:=h.bd
 have hmem:=Mtc.matched_mem (cl:=cl) (ent:=ent) (t:=t)
 have heq:=h.eq
 rw [Mtc.elems_step ht,←List.append_assoc] at heq
 have hbl:=(h.row ht).1
 have hio:=h.io
 have hgr:=h.gr
 generalize Mtc.matched cl ent t=mt at *
 generalize Mtc.ofPart ent imp mt.1 mt.2.2=l at *
 refine ⟨heq,by rw [List.length_append,flatK_append];exact ho,grown_belowB (grownR_trans hgr hg) hb (Nat.le_refl _),by rw [List.length_append];omega,by omega,by omega,fun hne=>⟨hbl,off+mt.1.length,pre++mt.1.map (Value.int .i64),post,?_,?_⟩,fun z hz=>hio z ((hmem z).1 (by simp [hz]))⟩
 ·have:=List.length_pos_iff.2 hne
  unfold subA
  rw [if_neg (by omega),hA,Option.map_some,Addr.add_lit]
 ·refine ⟨by rw [List.length_append,List.length_map,hrow.1],?_⟩
  have h2:=(hrow.keep (hb.block b hbl)).2
  unfold Blk at h2 ⊢
  rw [h2,List.map_append]
  simp only [List.append_assoc]
theorem EL.first {d:List Int} {n:Nat} {wb:World} (hA:w1.ownsRow wb.heap.size 3 1 (.slice A n cap) n (d.map (Value.int .i64))) (hn:d.length=n) (hio:∀z ∈ d,iok z) (hb:∀g o,A=some ⟨g,o,none⟩→g=b):EL cl ent imp (Mtc.elems cl ent imp d) d.length b w1 d A cap none 0 [] w1:=by
 refine ⟨rfl,World.ownsRow_nil _ _ _ _,grownR_refl _ _,by simp,?_,?_,fun hne=>?_,hio⟩
 ·obtain ⟨_,_,hv,hc⟩:=own_form hA
  injection hv with _ _ hv
  subst hv
  omega
 ·rcases hA.2 with ⟨hv,_⟩ | ⟨g,cp,cur,hv,_,_,_,h5,_⟩
  ·injection hv with _ _ hv
   omega
  ·injection hv with _ _ hv
   unfold maxLen at h5
   omega
 ·have hpos:=List.length_pos_iff.2 hne
  obtain ⟨g,post,rfl,h1,h2,h3,h4,h5⟩:=own_row hA (by omega)
  obtain rfl:=hb g 0 rfl
  exact ⟨h2.lt,0,[],post,rfl,h2⟩
end
theorem part_len {c:Col} (h:colErr c=0) (p:List Int) (q:Bool):(Mtc.ofPart (lastE c.ents) (impE c) p q).length≤16:=by
 unfold Mtc.ofPart
 split
 ·exact last_len h p
 ·unfold impE
  split <;> simp
theorem elems_own (A0:Option Addr) (n0 k0:Nat) (A1:Option Addr) (n1 k1:Nat) (A2:Option Addr) (n2 k2:Nat) (x:Nrm) (C:Option Addr) (n a:Nat) (B:Option Addr) (m b:Nat) (c:Col) (D:Option Addr) (dn dk:Nat) (t:List Int) (w:World) (hN:NrmAt w A0 n0 A1 n1 A2 n2 x) (hz:NrmSz x) (hL:Laid w) (hC:ColAt w C n B m c) (hcz:ColSz c) (hD:Ints w D t) (hn:t.length=dn) (hbig:dn≤16384) (hio:∀z ∈ t,iok z) :
  Calls Tryz.prog 29 #[.agg #[.slice A0 n0 k0,.slice A1 n1 k1,.slice A2 n2 k2],colV C n a B m b c,.slice D dn dk] w (RetOwnE (elsN x c t) w):=by
 subst hn
 have B0:Below w.heap.size w ((w.alloc (.cells #[.slice A0 n0 k0,.slice A1 n1 k1,.slice A2 n2 k2] 28)).alloc (.cells #[.slice C n a,.slice B m b,.int .i64 c.base,.int .i64 c.second,.int .i64 c.third] 32)):=((Below.refl _ _).alloc (Nat.le_refl _) _).alloc (by simp) _
 have X0:Box ((w.alloc (.cells #[.slice A0 n0 k0,.slice A1 n1 k1,.slice A2 n2 k2] 28)).alloc (.cells #[.slice C n a,.slice B m b,.int .i64 c.base,.int .i64 c.second,.int .i64 c.third] 32)) w.heap.size 28 [.slice A0 n0 k0,.slice A1 n1 k1,.slice A2 n2 k2]:=(Box.new w 28 [.slice A0 n0 k0,.slice A1 n1 k1,.slice A2 n2 k2] rfl).below (B:=w.heap.size+1) ((Below.refl _ _).alloc (by simp) _) (by omega)
 have X1:Box ((w.alloc (.cells #[.slice A0 n0 k0,.slice A1 n1 k1,.slice A2 n2 k2] 28)).alloc (.cells #[.slice C n a,.slice B m b,.int .i64 c.base,.int .i64 c.second,.int .i64 c.third] 32)) (w.heap.size+1) 32 [.slice C n a,.slice B m b,.int .i64 c.base,.int .i64 c.second,.int .i64 c.third]:=Box.new _ _ _ (by simp)
 have W0E:∃W0,((w.alloc (.cells #[.slice A0 n0 k0,.slice A1 n1 k1,.slice A2 n2 k2] 28)).alloc (.cells #[.slice C n a,.slice B m b,.int .i64 c.base,.int .i64 c.second,.int .i64 c.third] 32))=W0:=⟨_,rfl⟩
 have hxi:=dtx_iok (x:=x) false hio
 have hxl:=dtx_len x false t
 have HE:=Lib.hid (show elsN x c t=Mtc.elems (cls (usN x).cls) (lastE (colD c).ents) (impE (colD c)) (dtx x false t) from rfl)
 have MC:=Lib.hid (fun W (hb:Below w.heap.size w W)=>made_any C n a B m b c W (hC.below hb) hcz)
 have WC:=Lib.hid (fun W T (hb:Below w.heap.size w W) hT0 hT=>with_any A0 n0 k0 A1 n1 k1 A2 n2 k2 x T (colD c) w W hN hz hL hb hT0 hT)
 have DC:=Lib.hid (fun W (hb:Below w.heap.size w W)=>dText_own A0 n0 k0 A1 n1 k1 A2 n2 k2 x D t.length dk t false W (hN.below hb) hz (hL.below hb) (hD.below hb) rfl hbig hio)
 have hcv:=colD_ok c
 have PL:=Lib.hid (part_len hcv)
 have hce:=valid_ents hcv
 have hcb:=(col_grps hcv).2
 have hcs:=hz.us.z0
 have hca:=usN_asc x
 clear hN hz hL hC hcz hD hio hcv
 generalize elsN x c t=els at *
 generalize dtx x false t=d at *
 generalize (usN x).cls=cs at *
 unfold colV at *
 go_enter Tryz.func29,Tryz.ntmps29
 go_wp2_with fail
 obtain ⟨W0,hW0⟩:=W0E
 try rw [hW0] at B0 X0 X1 ⊢
 clear hW0
 have p00:=X0.cell (i:=0) rfl
 have p01:=X0.cell (i:=1) rfl
 have p02:=X0.cell (i:=2) rfl
 have p10:=X1.cell (i:=0) rfl
 have p11:=X1.cell (i:=1) rfl
 have p12:=X1.cell (i:=2) rfl
 have p13:=X1.cell (i:=3) rfl
 have p14:=X1.cell (i:=4) rfl
 have l0:=X0.lt
 have l1:=X1.lt
 have SH:=Lib.hid (fun W' (hb':Below W0.heap.size W0 W')=>show W'.cell? ⟨w.heap.size,0,none⟩=some (.slice A0 n0 k0)∧W'.cell? ⟨w.heap.size,1,none⟩=some (.slice A1 n1 k1)∧W'.cell? ⟨w.heap.size,2,none⟩=some (.slice A2 n2 k2)∧W'.cell? ⟨w.heap.size+1,0,none⟩=some (.slice C n a)∧W'.cell? ⟨w.heap.size+1,1,none⟩=some (.slice B m b)∧W'.cell? ⟨w.heap.size+1,2,none⟩=some (.int .i64 c.base)∧W'.cell? ⟨w.heap.size+1,3,none⟩=some (.int .i64 c.second)∧W'.cell? ⟨w.heap.size+1,4,none⟩=some (.int .i64 c.third)∧Below W0.heap.size W0 W' from ⟨(hb'.cell l0).trans p00,(hb'.cell l0).trans p01,(hb'.cell l0).trans p02,(hb'.cell l1).trans p10,(hb'.cell l1).trans p11,(hb'.cell l1).trans p12,(hb'.cell l1).trans p13,(hb'.cell l1).trans p14,hb'⟩)
 have TM:=Lib.hid (fun W (hb':Below W0.heap.size W0 W)=>(MC.out W (B0.trans (hb'.mono B0.size))).mono (R':=fun e W'=>∃v,e=.returned v∧(W'.cell? ⟨w.heap.size,0,none⟩=some (.slice A0 n0 k0)∧W'.cell? ⟨w.heap.size,1,none⟩=some (.slice A1 n1 k1)∧W'.cell? ⟨w.heap.size,2,none⟩=some (.slice A2 n2 k2)∧W'.cell? ⟨w.heap.size+1,0,none⟩=some (.slice C n a)∧W'.cell? ⟨w.heap.size+1,1,none⟩=some (.slice B m b)∧W'.cell? ⟨w.heap.size+1,2,none⟩=some (.int .i64 c.base)∧W'.cell? ⟨w.heap.size+1,3,none⟩=some (.int .i64 c.second)∧W'.cell? ⟨w.heap.size+1,4,none⟩=some (.int .i64 c.third)∧Below W0.heap.size W0 W')∧(∃T,v=.pointer (some ⟨T,0,none⟩)∧W.heap.size≤T∧TabAt W' T (colD c) (.slice none 0 0) 0)) (fun e W' ⟨T,he,g1,g2,g3⟩=>⟨_,he,SH.out W' (hb'.trans (g3.mono hb'.size)),T,rfl,g1,g2⟩))
 clear p00 p01 p02 p10 p11 p12 p13 p14
 refine wp_region_held_drew (S:=fun W'=>W'.cell? ⟨w.heap.size,0,none⟩=some (.slice A0 n0 k0)∧W'.cell? ⟨w.heap.size,1,none⟩=some (.slice A1 n1 k1)∧W'.cell? ⟨w.heap.size,2,none⟩=some (.slice A2 n2 k2)∧W'.cell? ⟨w.heap.size+1,0,none⟩=some (.slice C n a)∧W'.cell? ⟨w.heap.size+1,1,none⟩=some (.slice B m b)∧W'.cell? ⟨w.heap.size+1,2,none⟩=some (.int .i64 c.base)∧W'.cell? ⟨w.heap.size+1,3,none⟩=some (.int .i64 c.second)∧W'.cell? ⟨w.heap.size+1,4,none⟩=some (.int .i64 c.third)∧Below W0.heap.size W0 W') (by kernel_rfl) (SH.out _ ((Below.refl _ _).drew)) (fun hHeld=>?_)
 refine tK 0 13 ?_
 refine tK 2 15 ?_
 refine qE 1 14 (TM.out _ hHeld.2.2.2.2.2.2.2.2) ?_
 clear hHeld
 rintro _ W1 hHeld ⟨T,rfl,hT0,hTab⟩
 have TW:=Lib.hid ((WC.out W1 T (B0.trans (hHeld.2.2.2.2.2.2.2.2.mono B0.size)) (by have:=B0.size;have:W0.heap.size≤T:=hT0;omega) hTab).mono (R':=fun e W'=>∃v,e=.returned v∧(W'.cell? ⟨w.heap.size,0,none⟩=some (.slice A0 n0 k0)∧W'.cell? ⟨w.heap.size,1,none⟩=some (.slice A1 n1 k1)∧W'.cell? ⟨w.heap.size,2,none⟩=some (.slice A2 n2 k2)∧W'.cell? ⟨w.heap.size+1,0,none⟩=some (.slice C n a)∧W'.cell? ⟨w.heap.size+1,1,none⟩=some (.slice B m b)∧W'.cell? ⟨w.heap.size+1,2,none⟩=some (.int .i64 c.base)∧W'.cell? ⟨w.heap.size+1,3,none⟩=some (.int .i64 c.second)∧W'.cell? ⟨w.heap.size+1,4,none⟩=some (.int .i64 c.third)∧Below W0.heap.size W0 W')∧(v=.pointer (some ⟨T,0,none⟩)∧(∃A k,TabAt W' T (colD c) (.slice A cs.length k) (topS cs)∧Spans W' A cs))) (fun e W' ⟨he,h2,h3⟩=>⟨_,he,SH.out W' (hHeld.2.2.2.2.2.2.2.2.trans (below_of_grown h3 (show W0.heap.size≤T from hT0) hHeld.2.2.2.2.2.2.2.2.size)),rfl,h2⟩))
 refine qE 3 16 (TW.out) ?_
 clear hHeld
 rintro _ W2 hHeld ⟨rfl,AX,kX,hTab2,hSp2⟩
 refine tK 4 7 ?_
 refine wpAnyH_done (by kernel_rfl) ?_ _
 have hb2:=hHeld.2.2.2.2.2.2.2.2
 have hbw2:=B0.trans (hb2.mono B0.size)
 have q00:=hHeld.1
 have q01:=hHeld.2.1
 have q02:=hHeld.2.2.1
 have HT:=Lib.hid hTab2
 have HS:=Lib.hid hSp2
 have KD:=Lib.hid (DC.out W2 hbw2)
 have hbd:=hbw2.size
 clear hHeld SH TM TW WC MC hTab hTab2 hSp2 DC
 go_wp2_with fail
 with_reducible refine KD.out.mono ?_
 rintro e W3 ⟨E0,d0,rfl,hown,hb3⟩
 have HM:=Lib.hid (show ∀b,W2.heap.size≤b→MCtx T (colD c) cs AX kX b W2 from fun b hb=>⟨HT.out,HS.out,hb,hca,by omega,hce,⟨hcb.1,hcb.2.1⟩⟩)
 obtain ⟨bq,hbq,HBQ⟩:∃bq,W2.heap.size≤bq∧∀g o,E0=some ⟨g,o,none⟩→g=bq:=by
  cases E0 with
  | none=>exact ⟨_,Nat.le_refl _,fun g o h=>by cases h⟩
  | some ad=>
   rcases hown.2 with ⟨hv,_⟩ | ⟨g,cp,cur,hv,h1,_⟩
   ·cases hv
   ·injection hv with hv
    injection hv with hv
    subst hv
    exact ⟨g,h1,fun g' o h=>by injection h with h;injection h with h1 h2;exact h1.symm⟩
 have HF:=Lib.hid (EL.first (cl:=cls cs) (ent:=lastE (colD c).ents) (imp:=impE (colD c)) hown rfl hxi HBQ)
 rw [←HE.out] at HF
 have MT:=Lib.hid (HM.out bq hbq)
 clear HM HBQ hown KD q00 q01 q02 HT HS
 go_wp2_with fail
 go_loopw [8,9] (fun u v wr=>∃(t':List Int) (A':Option Addr) (cap':Nat) (E':Option Addr) (k':Nat) (es:List Elt),u=.slice E' es.length k'∧v=.slice A' t'.length cap'∧EL (cls cs) (lastE (colD c).ents) (impE (colD c)) els d.length bq W3 t' A' cap' E' k' es wr) (fun _ v _=>slLen v)
 case atStart=>exact ⟨d,E0,d0,none,0,[],rfl,rfl,HF.out⟩
 case round=>
  obtain ⟨t',A',cap',E',k',es,rfl,rfl,hel⟩:=hrel
  have HL:=Lib.hid hel
  have hcp:=hel.cp
  have hcm:=hel.cm
  have hbd2:=hel.bd
  have hwsz:=hel.gr.size
  have hwr:Below W2.heap.size W2 wr:=hb3.trans (below_of_grown hel.gr hbq hb3.size)
  by_cases hne:t'=[]
  ·have hes:=hel.eq
   rw [hne,Mtc.elems_nil,List.append_nil] at hes
   have hlt:t'.length=0:=by rw [hne];rfl
   have HO:=Lib.hid hel.own
   have hbb:=hbw2.trans (hwr.mono hbw2.size)
   have h3:=hb3.size
   clear hel HL
   subst hne
   subst hes
   go_wp2_with fail
   go_ret
   exact ⟨E',k',rfl,own_mono HO.out (by omega),hbb⟩
  ·have hpos:=List.length_pos_iff.2 hne
   obtain ⟨hbl,off,pre,post,rfl,hrow⟩:=hel.row hne
   have TC:=Lib.hid (tmatch_any T (colD c) cs AX kX bq off cap' pre post t' W2 wr MT.out hwr hrow hne (by omega) hcp hcm hel.io)
   have ML:=Mtc.matched_len (cl:=cls cs) (ent:=lastE (colD c).ents) hne
   have hpl:=PL.out (Mtc.matched (cls cs) (lastE (colD c).ents) t').1 (Mtc.matched (cls cs) (lastE (colD c).ents) t').2.2
   have OM:=Lib.hid (fun W' hg=>hel.own_match hne (W':=W') hg)
   have NX:=Lib.hid (fun (W' W2:World) (off:Nat) (pre post:List Value) hg hrow (E2:Option Addr) (k2:Nat) ho hb=>HL.out.next hne (off:=off) (pre:=pre) (post:=post) (W':=W') (W2:=W2) hg hpl hrow (E':=E2) (k':=k2) ho hb)
   unfold RetMatch RetMt at TC
   have hlt:decide ((0:Int) < (t'.length:Int))=true:=by simpa using hpos
   clear hel HL hrow
   generalize hmt:Mtc.matched (cls cs) (lastE (colD c).ents) t'=mt at *
   clear hmt
   generalize hpt:Mtc.ofPart (lastE (colD c).ents) (impE (colD c)) mt.1 mt.2.2=pt at *
   clear hpt
   obtain ⟨m1,m2,mk⟩:=mt
   dsimp only at *
   have hcut:=fun (W:World)=>run_cutFrom (some ⟨bq,off,none⟩) t'.length cap' m1.length (by omega) W
   go_wp2_with fail
   with_reducible refine TC.out.mono ?_
   rintro e W4 ⟨E4,d4,rfl,hE4,hrow4,hg4⟩
   have HO4:=Lib.hid (OM.out W4 hg4)
   have HE4:=Lib.hid hE4
   have HN4:=Lib.hid (fun W2=>NX.out W4 W2 off pre post hg4 ⟨rfl,hrow4⟩)
   have h34:W3.heap.size≤W4.heap.size:=Nat.le_trans hwsz hg4.size
   clear hE4 hrow4 hg4 OM NX TC
   go_wp2_with (at_builtin;refine wpList_app _ _ 72 112 (.agg #[.int .i64 0,.int .i64 0,.int .i64 0,.bool false]) 4 32 rfl rfl Tryz.underlying72 info_elt rfl (by decide) (by decide) rfl HO4.out rfl HE4.out (flatK_len Elt.cells 4 (fun _=>rfl) _) (oneCell_elts _) (by omega) h34 ?_;intro B5 k5 w5 hown5 hc5 hb5 hg5 hB5)
   have HL5:=Lib.hid (HN4.out w5 B5 k5 hown5 hb5)
   clear hown5 hb5 hg5 hB5 HN4 HO4 HE4
   go_wp2_with fail
   go_roundw
   case rel=>exact ⟨m2,_,_,B5,k5,es++pt,by rw [List.length_append],by rw [show t'.length - m1.length=m2.length by omega],HL5.out⟩
   case measure=>simp [slLen];omega
end Go.Proofs.YtijgbonhjcblcaaGreatDoor
namespace Go.Proofs.YtijgbonhjcblcaaGreatDoor
open Go.RowKit Go.Maps Go.WideMaps
theorem joinL_len {M:Nat}:∀{l:List (List Int)},(∀x ∈ l,x.length≤M)→(joinL l).length≤l.length*(M+1)
 | [],_=>by simp [joinL]
 | [x],h=>by have:=h x (by simp);simp [joinL];omega
 | x::y::l,h=>by
  have h1:=h x (by simp)
  have h2:=joinL_len (M:=M) (l:=y::l) (fun z hz=>h z (by simp [hz]))
  have e:(joinL (x::y::l)).length=x.length+((joinL (y::l)).length+1):=by
   show (x++0::joinL (y::l)).length=_
   rw [List.length_append,List.length_cons]
  rw [e,List.length_cons (a:=x),Nat.add_mul]
  omega
theorem lvlK_len (o:Opt) (es:List Elt) (k:Nat):(lvlK o es k).length≤es.length:=by
 unfold lvlK
 split
 ·rw [List.length_reverse];exact Nat.le_trans (rowK_len _ _) (by rw [wtsL_len];exact Nat.le_refl _)
 ·exact Nat.le_trans (rowK_len _ _) (by rw [wtsL_len];exact Nat.le_refl _)
theorem wgtL_mem {o:Opt} {es:List Elt} {x:List Int} (h:x ∈ wgtL o es):x.length≤es.length:=by
 unfold wgtL at h
 obtain ⟨k,_,rfl⟩:=List.mem_map.1 h
 exact lvlK_len o es k
theorem joinW_len (o:Opt) (es:List Elt) (h:o.st≤4) (i:Nat):(joinL ((wgtL o es).take i)).length≤4*(es.length+1):=by
 refine Nat.le_trans (joinL_len (M:=es.length) (fun x hx=>wgtL_mem (List.mem_of_mem_take hx))) (Nat.mul_le_mul_right _ ?_)
 rw [List.length_take,wgtL_len]
 omega
theorem elsF_len {cl:Int→Int} {ent:List Int→Option (List Elt)} {imp:Int→List Elt} (h:∀p q,(Mtc.ofPart ent imp p q).length≤16) (t:List Int):(Mtc.elems cl ent imp t).length≤16*t.length:=by
 refine Mtc.parts_ind cl ent (P:=fun t=>(Mtc.elems cl ent imp t).length≤16*t.length) (by simp [Mtc.elems_nil]) (fun t ht ih=>?_) t
 rw [Mtc.elems_step ht,List.length_append]
 have h1:=h (Mtc.matched cl ent t).1 (Mtc.matched cl ent t).2.2
 have h2:=(Mtc.matched_len (cl:=cl) (ent:=ent) ht).1
 omega
theorem elsN_len (x:Nrm) (c:Col) (t:List Int):(elsN x c t).length≤1024*t.length:=by
 have h1:=elsF_len (cl:=cls (usN x).cls) (part_len (colD_ok c)) (dtx x false t)
 have h2:=dtx_len x false t
 unfold elsN
 omega
theorem idnL_len (d:List Int):(idnL d).length≤d.length:=by
 unfold idnL
 rw [List.length_map]
 exact List.length_filter_le _ _
theorem idnL_take {d:List Int} {i:Nat} (hi:i < d.length):idnL (d.take (i+1))=idnL (d.take i)++if 0≤d[i]∧d[i]≤1114111 then [d[i]+1] else []:=by
 rw [List.take_succ_eq_append_getElem hi,idnL_snoc]
theorem optD_idem (o:Opt):optD (optD o)=optD o:=if_pos (optD_ok o)
structure Grw (WD W:World) (base:Nat) (K0 K:Option Addr) (k:Nat) (zs:List Int):Prop where
 own:W.ownsRow base 3 1 (.slice K zs.length k) zs.length (zs.map (Value.int .i64))
 gr:WD.grownBy W (blk K0)
 or_:K=K0∨∀q,blk K=some q→WD.heap.size≤q
theorem Grw.app {WD W W':World} {base:Nat} {K0 K B:Option Addr} {k k':Nat} {zs ys:List Int} {o:Obj} (h:Grw WD W base K0 K k zs) (ho:W'.ownsRow base 3 1 (.slice B (zs.length+ys.length) k') (zs.length+ys.length) (zs.map (Value.int .i64)++ys.map (Value.int .i64))) (hg:(W.alloc o).grownBy W' (Value.ownBlock (.slice K zs.length k))) (hB:B=K∨B=some ⟨(W.alloc o).heap.size,0,none⟩):Grw WD W' base K0 B k' (zs++ys):=by
 rw [ownBlock_blk] at hg
 have h1:=gr_alloc h.gr o
 have hz:=h1.size
 refine ⟨by rw [List.length_append,List.map_append];exact ho,?_,?_⟩
 ·rcases h.or_ with rfl | g
  ·exact grownR_trans h1 hg
  ·exact ⟨hg.os.trans h1.os,hg.tape.trans h1.tape,hg.output.trans h1.output,Nat.le_trans hz hg.size,fun q hq hne=>(hg.block q (by omega) (fun e=>by have:=g q e.symm;omega)).trans (h1.block q hq hne)⟩
 ·rcases hB with rfl | rfl
  ·exact h.or_
  ·right
   intro q hq
   have:q=(W.alloc o).heap.size:=by injection hq with hq;exact hq.symm
   omega
theorem Grw.low {WD W:World} {base:Nat} {K0 K:Option Addr} {k:Nat} {zs:List Int} (h:Grw WD W base K0 K k zs) (hb:base≤WD.heap.size) (hk:∀q,blk K0=some q→base≤q):Below base WD W:=
 ⟨h.gr.os,h.gr.tape,h.gr.output,h.gr.size,fun q hq=>h.gr.block q (by omega) (fun e=>by have:=hk q e.symm;omega)⟩
theorem Grw.ints {WD W:World} {base:Nat} {K0 K A:Option Addr} {k n c bd:Nat} {zs d:List Int} (h:Grw WD W base K0 K k zs) (hA:WD.ownsRow bd 3 1 (.slice A n c) n (d.map (Value.int .i64))) (hk:∀q,blk K0=some q→q < bd):Ints W A d:=by
 refine Sl.of_own (hA.kept h.gr ?_)
 rw [ownBlock_blk]
 cases hb:blk A with
 | none=>exact .inl rfl
 | some q=>
  right
  intro e
  have h1:=(hA.lt q (by rw [ownBlock_blk];exact hb)).1
  have h2:=hk q e.symm
  omega
theorem key_own (A0:Option Addr) (n0 k0:Nat) (A1:Option Addr) (n1 k1:Nat) (A2:Option Addr) (n2 k2:Nat) (x:Nrm) (C:Option Addr) (n a:Nat) (B:Option Addr) (m b:Nat) (c:Col) (o:Opt) (D:Option Addr) (dn dk:Nat) (t:List Int) (w:World) (hN:NrmAt w A0 n0 A1 n1 A2 n2 x) (hz:NrmSz x) (hL:Laid w) (hC:ColAt w C n B m c) (hcz:ColSz c) (hD:Ints w D t) (hn:t.length=dn) (hbig:dn≤16384) (hio:∀z ∈ t,iok z) :
  Calls Tryz.prog 10 #[.agg #[.slice A0 n0 k0,.slice A1 n1 k1,.slice A2 n2 k2],colV C n a B m b c,.agg #[.int .i64 o.st,.int .i64 o.va,.bool o.bk,.bool o.idn],.slice D dn dk] w (RetOwnI (keyN (optD o) (elsN x c t) (dtx x false t)) w):=by
 subst hn
 have EF:=Lib.hid (fun W=>effective_any o W)
 obtain ⟨⟨hst1,hst4⟩,hva1,hva3⟩:=optD_bd o
 have hel:=elsN_len x c t
 have hdl:=dtx_len x false t
 have EC:=Lib.hid (fun W (hb:Below w.heap.size w W)=>elems_own A0 n0 k0 A1 n1 k1 A2 n2 k2 x C n a B m b c D t.length dk t W (hN.below hb) hz (hL.below hb) (hC.below hb) hcz (hD.below hb) rfl hbig hio)
 have DC:=Lib.hid (fun W (hb:Below w.heap.size w W)=>dText_own A0 n0 k0 A1 n1 k1 A2 n2 k2 x D t.length dk t false W (hN.below hb) hz (hL.below hb) (hD.below hb) rfl hbig hio)
 have OO:=optD_idem o
 have WC0:=Lib.hid (fun E k (W:World) (hE:Elts W E (elsN x c t))=>weights_any E (elsN x c t).length k (elsN x c t) (optD o) W hE rfl (by omega))
 rw [OO] at WC0
 have JL:=Lib.hid (joinW_len (optD o) (elsN x c t) hst4)
 have WLN:=wgtL_len (optD o) (elsN x c t)
 have WL4:(wgtL (optD o) (elsN x c t)).length≤4:=by omega
 have HK:=Lib.hid (show keyN (optD o) (elsN x c t) (dtx x false t)=joinL (wgtL (optD o) (elsN x c t))++if (optD o).idn=true then 0::idnL (dtx x false t) else [] from rfl)
 have WLM:=Lib.hid (fun y (hy:y ∈ wgtL (optD o) (elsN x c t))=>wgtL_mem hy)
 have IL:=Lib.hid (fun i=>idnL_len ((dtx x false t).take i))
 clear hN hz hL hC hcz hD hio OO WLN
 generalize keyN (optD o) (elsN x c t) (dtx x false t)=ky at *
 generalize wgtL (optD o) (elsN x c t)=wl at *
 generalize elsN x c t=els at *
 generalize dtx x false t=d at *
 generalize optD o=od at *
 obtain ⟨st0,va0,bk0,idn0⟩:=o
 obtain ⟨st,va,bk,idn⟩:=od
 dsimp only at *
 have WC:=Lib.hid (fun E k (W:World) hE=>WC0.out E k W hE)
 clear WC0 hva1 hva3 hst1 hst4
 unfold colV at *
 have B0:Below w.heap.size w (((w.alloc (.cells #[.slice A0 n0 k0,.slice A1 n1 k1,.slice A2 n2 k2] 28)).alloc (.cells #[.slice C n a,.slice B m b,.int .i64 c.base,.int .i64 c.second,.int .i64 c.third] 32)).alloc (.cells #[.int .i64 st0,.int .i64 va0,.bool bk0,.bool idn0] 34)):=(((Below.refl _ _).alloc (Nat.le_refl _) _).alloc (by simp) _).alloc (by simp <;> omega) _
 have X0:Box (((w.alloc (.cells #[.slice A0 n0 k0,.slice A1 n1 k1,.slice A2 n2 k2] 28)).alloc (.cells #[.slice C n a,.slice B m b,.int .i64 c.base,.int .i64 c.second,.int .i64 c.third] 32)).alloc (.cells #[.int .i64 st0,.int .i64 va0,.bool bk0,.bool idn0] 34)) w.heap.size 28 [.slice A0 n0 k0,.slice A1 n1 k1,.slice A2 n2 k2]:=bx_alloc (bx_alloc (Box.new w 28 [.slice A0 n0 k0,.slice A1 n1 k1,.slice A2 n2 k2] rfl) _) _
 have X1:Box (((w.alloc (.cells #[.slice A0 n0 k0,.slice A1 n1 k1,.slice A2 n2 k2] 28)).alloc (.cells #[.slice C n a,.slice B m b,.int .i64 c.base,.int .i64 c.second,.int .i64 c.third] 32)).alloc (.cells #[.int .i64 st0,.int .i64 va0,.bool bk0,.bool idn0] 34)) (w.heap.size+1) 32 [.slice C n a,.slice B m b,.int .i64 c.base,.int .i64 c.second,.int .i64 c.third]:=bx_alloc (Box.new _ 32 [.slice C n a,.slice B m b,.int .i64 c.base,.int .i64 c.second,.int .i64 c.third] (by simp)) _
 have X2:Box (((w.alloc (.cells #[.slice A0 n0 k0,.slice A1 n1 k1,.slice A2 n2 k2] 28)).alloc (.cells #[.slice C n a,.slice B m b,.int .i64 c.base,.int .i64 c.second,.int .i64 c.third] 32)).alloc (.cells #[.int .i64 st0,.int .i64 va0,.bool bk0,.bool idn0] 34)) (w.heap.size+1+1) 34 [.int .i64 st0,.int .i64 va0,.bool bk0,.bool idn0]:=Box.new _ _ _ (by simp)
 have W0E:∃W0,(((w.alloc (.cells #[.slice A0 n0 k0,.slice A1 n1 k1,.slice A2 n2 k2] 28)).alloc (.cells #[.slice C n a,.slice B m b,.int .i64 c.base,.int .i64 c.second,.int .i64 c.third] 32)).alloc (.cells #[.int .i64 st0,.int .i64 va0,.bool bk0,.bool idn0] 34))=W0:=⟨_,rfl⟩
 go_enter Tryz.func10,Tryz.ntmps10
 go_upto_region 1 with (fail)
 obtain ⟨W0,hW0⟩:=W0E
 try rw [hW0] at B0 X0 X1 X2 ⊢
 clear hW0
 have c0:=X2.cell (i:=0) rfl
 have c1:=X2.cell (i:=1) rfl
 have c2:=X2.cell (i:=2) rfl
 have c3:=X2.cell (i:=3) rfl
 have l0:=X0.lt
 have l1:=X1.lt
 have l2:=X2.lt
 go_wp2_with fail
 with_reducible refine (EF.out _).mono ?_
 rintro e W1 ⟨rfl,hb1⟩
 have B1:=B0.trans (hb1.mono B0.size)
 have Y0:=X0.below hb1 l0
 have Y1:=X1.below hb1 l1
 have Y2:=X2.below hb1 l2
 clear c0 c1 c2 c3 EF X0 X1 X2 hb1 B0
 have f0:=Y2.free 0
 have f1:=Y2.free 1
 have f2:=Y2.free 2
 have f3:=Y2.free 3
 have e0:=Y2.cell (i:=0) rfl
 have e1:=Y2.cell (i:=1) rfl
 have e2:=Y2.cell (i:=2) rfl
 have e3:=Y2.cell (i:=3) rfl
 have Z2:Box ((((W1.setCell ⟨w.heap.size+1+1,0,none⟩ (.int .i64 st)).setCell ⟨w.heap.size+1+1,1,none⟩ (.int .i64 va)).setCell ⟨w.heap.size+1+1,2,none⟩ (.bool bk)).setCell ⟨w.heap.size+1+1,3,none⟩ (.bool idn)) (w.heap.size+1+1) 34 [.int .i64 st,.int .i64 va,.bool bk,.bool idn]:=(((Y2.set 0 _).set 1 _).set 2 _).set 3 _
 have Z0:Box ((((W1.setCell ⟨w.heap.size+1+1,0,none⟩ (.int .i64 st)).setCell ⟨w.heap.size+1+1,1,none⟩ (.int .i64 va)).setCell ⟨w.heap.size+1+1,2,none⟩ (.bool bk)).setCell ⟨w.heap.size+1+1,3,none⟩ (.bool idn)) w.heap.size 28 [.slice A0 n0 k0,.slice A1 n1 k1,.slice A2 n2 k2]:=bx_ne (bx_ne (bx_ne (bx_ne Y0 _ (by simp;omega) _) _ (by simp;omega) _) _ (by simp;omega) _) _ (by simp;omega) _
 have Z1:Box ((((W1.setCell ⟨w.heap.size+1+1,0,none⟩ (.int .i64 st)).setCell ⟨w.heap.size+1+1,1,none⟩ (.int .i64 va)).setCell ⟨w.heap.size+1+1,2,none⟩ (.bool bk)).setCell ⟨w.heap.size+1+1,3,none⟩ (.bool idn)) (w.heap.size+1) 32 [.slice C n a,.slice B m b,.int .i64 c.base,.int .i64 c.second,.int .i64 c.third]:=bx_ne (bx_ne (bx_ne (bx_ne Y1 _ (by simp) _) _ (by simp) _) _ (by simp) _) _ (by simp) _
 have B5:Below w.heap.size w ((((W1.setCell ⟨w.heap.size+1+1,0,none⟩ (.int .i64 st)).setCell ⟨w.heap.size+1+1,1,none⟩ (.int .i64 va)).setCell ⟨w.heap.size+1+1,2,none⟩ (.bool bk)).setCell ⟨w.heap.size+1+1,3,none⟩ (.bool idn)):=(((B1.setCell (by simp;omega) _).setCell (by simp;omega) _).setCell (by simp;omega) _).setCell (by simp;omega) _
 have W5E:∃W5,((((W1.setCell ⟨w.heap.size+1+1,0,none⟩ (.int .i64 st)).setCell ⟨w.heap.size+1+1,1,none⟩ (.int .i64 va)).setCell ⟨w.heap.size+1+1,2,none⟩ (.bool bk)).setCell ⟨w.heap.size+1+1,3,none⟩ (.bool idn))=W5:=⟨_,rfl⟩
 go_upto_region 2 with (fail)
 obtain ⟨W5,hW5⟩:=W5E
 try rw [hW5] at B5 Z0 Z1 Z2 ⊢
 clear hW5 f0 f1 f2 f3 e0 e1 e2 e3 Y0 Y1 Y2 B1 l0 l1 l2
 have l0:=Z0.lt
 have l1:=Z1.lt
 have l2:=Z2.lt
 have p00:=Z0.cell (i:=0) rfl
 have p01:=Z0.cell (i:=1) rfl
 have p02:=Z0.cell (i:=2) rfl
 have p10:=Z1.cell (i:=0) rfl
 have p11:=Z1.cell (i:=1) rfl
 have p12:=Z1.cell (i:=2) rfl
 have p13:=Z1.cell (i:=3) rfl
 have p14:=Z1.cell (i:=4) rfl
 have p20:=Z2.cell (i:=0) rfl
 have p21:=Z2.cell (i:=1) rfl
 have p22:=Z2.cell (i:=2) rfl
 have p23:=Z2.cell (i:=3) rfl
 have SH:=Lib.hid (fun W' (hb':Below W5.heap.size W5 W')=>show W'.cell? ⟨w.heap.size,0,none⟩=some (.slice A0 n0 k0)∧W'.cell? ⟨w.heap.size,1,none⟩=some (.slice A1 n1 k1)∧W'.cell? ⟨w.heap.size,2,none⟩=some (.slice A2 n2 k2)∧W'.cell? ⟨w.heap.size+1,0,none⟩=some (.slice C n a)∧W'.cell? ⟨w.heap.size+1,1,none⟩=some (.slice B m b)∧W'.cell? ⟨w.heap.size+1,2,none⟩=some (.int .i64 c.base)∧W'.cell? ⟨w.heap.size+1,3,none⟩=some (.int .i64 c.second)∧W'.cell? ⟨w.heap.size+1,4,none⟩=some (.int .i64 c.third)∧W'.cell? ⟨w.heap.size+1+1,0,none⟩=some (.int .i64 st)∧W'.cell? ⟨w.heap.size+1+1,1,none⟩=some (.int .i64 va)∧W'.cell? ⟨w.heap.size+1+1,2,none⟩=some (.bool bk)∧W'.cell? ⟨w.heap.size+1+1,3,none⟩=some (.bool idn)∧Below W5.heap.size W5 W' from ⟨(hb'.cell l0).trans p00,(hb'.cell l0).trans p01,(hb'.cell l0).trans p02,(hb'.cell l1).trans p10,(hb'.cell l1).trans p11,(hb'.cell l1).trans p12,(hb'.cell l1).trans p13,(hb'.cell l1).trans p14,(hb'.cell l2).trans p20,(hb'.cell l2).trans p21,(hb'.cell l2).trans p22,(hb'.cell l2).trans p23,hb'⟩)
 have TE:=Lib.hid (fun W (hb':Below W5.heap.size W5 W)=>(EC.out W (B5.trans (hb'.mono B5.size))).mono (R':=fun e W'=>∃v,e=.returned v∧(W'.cell? ⟨w.heap.size,0,none⟩=some (.slice A0 n0 k0)∧W'.cell? ⟨w.heap.size,1,none⟩=some (.slice A1 n1 k1)∧W'.cell? ⟨w.heap.size,2,none⟩=some (.slice A2 n2 k2)∧W'.cell? ⟨w.heap.size+1,0,none⟩=some (.slice C n a)∧W'.cell? ⟨w.heap.size+1,1,none⟩=some (.slice B m b)∧W'.cell? ⟨w.heap.size+1,2,none⟩=some (.int .i64 c.base)∧W'.cell? ⟨w.heap.size+1,3,none⟩=some (.int .i64 c.second)∧W'.cell? ⟨w.heap.size+1,4,none⟩=some (.int .i64 c.third)∧W'.cell? ⟨w.heap.size+1+1,0,none⟩=some (.int .i64 st)∧W'.cell? ⟨w.heap.size+1+1,1,none⟩=some (.int .i64 va)∧W'.cell? ⟨w.heap.size+1+1,2,none⟩=some (.bool bk)∧W'.cell? ⟨w.heap.size+1+1,3,none⟩=some (.bool idn)∧Below W5.heap.size W5 W')∧(∃E d,v=.slice E els.length d∧Elts W' E els)) (fun e W' ⟨E,d,he,g1,g2⟩=>⟨_,he,SH.out W' (hb'.trans (g2.mono hb'.size)),E,d,rfl,Sl.of_own g1⟩))
 have HZ:=Lib.hid (And.intro Z0 (And.intro Z1 Z2))
 clear p00 p01 p02 p10 p11 p12 p13 p14 p20 p21 p22 p23 Z0 Z1 Z2
 unfold RetWgt at WC
 go_wp2_with fail
 refine wp_region_held_drew (S:=fun W'=>W'.cell? ⟨w.heap.size,0,none⟩=some (.slice A0 n0 k0)∧W'.cell? ⟨w.heap.size,1,none⟩=some (.slice A1 n1 k1)∧W'.cell? ⟨w.heap.size,2,none⟩=some (.slice A2 n2 k2)∧W'.cell? ⟨w.heap.size+1,0,none⟩=some (.slice C n a)∧W'.cell? ⟨w.heap.size+1,1,none⟩=some (.slice B m b)∧W'.cell? ⟨w.heap.size+1,2,none⟩=some (.int .i64 c.base)∧W'.cell? ⟨w.heap.size+1,3,none⟩=some (.int .i64 c.second)∧W'.cell? ⟨w.heap.size+1,4,none⟩=some (.int .i64 c.third)∧W'.cell? ⟨w.heap.size+1+1,0,none⟩=some (.int .i64 st)∧W'.cell? ⟨w.heap.size+1+1,1,none⟩=some (.int .i64 va)∧W'.cell? ⟨w.heap.size+1+1,2,none⟩=some (.bool bk)∧W'.cell? ⟨w.heap.size+1+1,3,none⟩=some (.bool idn)∧Below W5.heap.size W5 W') (by kernel_rfl) (SH.out _ ((Below.refl _ _).drew)) (fun hHeld=>?_)
 refine tK 0 16 ?_
 refine tK 1 17 ?_
 refine tK 2 18 ?_
 refine tK 4 20 ?_
 refine tK 7 23 ?_
 refine qE 3 19 (TE.out _ hHeld.2.2.2.2.2.2.2.2.2.2.2.2) ?_
 clear hHeld
 rintro _ W2 hHeld ⟨E2,d2,rfl,hE2⟩
 have TW:=Lib.hid ((WC.out E2 d2 W2 hE2).mono (R':=fun e W'=>∃v,e=.returned v∧(W'.cell? ⟨w.heap.size,0,none⟩=some (.slice A0 n0 k0)∧W'.cell? ⟨w.heap.size,1,none⟩=some (.slice A1 n1 k1)∧W'.cell? ⟨w.heap.size,2,none⟩=some (.slice A2 n2 k2)∧W'.cell? ⟨w.heap.size+1,0,none⟩=some (.slice C n a)∧W'.cell? ⟨w.heap.size+1,1,none⟩=some (.slice B m b)∧W'.cell? ⟨w.heap.size+1,2,none⟩=some (.int .i64 c.base)∧W'.cell? ⟨w.heap.size+1,3,none⟩=some (.int .i64 c.second)∧W'.cell? ⟨w.heap.size+1,4,none⟩=some (.int .i64 c.third)∧W'.cell? ⟨w.heap.size+1+1,0,none⟩=some (.int .i64 st)∧W'.cell? ⟨w.heap.size+1+1,1,none⟩=some (.int .i64 va)∧W'.cell? ⟨w.heap.size+1+1,2,none⟩=some (.bool bk)∧W'.cell? ⟨w.heap.size+1+1,3,none⟩=some (.bool idn)∧Below W5.heap.size W5 W')∧(∃B d,v=.slice B wl.length d∧RowsAt W' B wl)) (fun e W' ⟨B3,d3,he,g1,g2⟩=>⟨_,he,SH.out W' (hHeld.2.2.2.2.2.2.2.2.2.2.2.2.trans (g2.mono hHeld.2.2.2.2.2.2.2.2.2.2.2.2.size)),B3,d3,rfl,g1⟩))
 refine qE 5 21 (TW.out) ?_
 clear hHeld
 rintro _ W3 hHeld ⟨B3,d3,rfl,hrows⟩
 refine tK 6 22 ?_
 refine wpAnyH_done (by kernel_rfl) ?_ _
 have hb3:=hHeld.2.2.2.2.2.2.2.2.2.2.2.2
 have HBW:=Lib.hid (B5.trans (hb3.mono B5.size))
 have HB3:=Lib.hid hb3
 have HRW:=Lib.hid hrows
 have hs3:=hb3.size
 clear hHeld SH TE TW WC EC hrows hE2 hb3
 go_wp2_with fail
 go_loopw [9,23] (fun u v wr=>∃(i:Nat) (K:Option Addr) (k:Nat),i≤wl.length∧v=.int .i64 i∧u=.slice K (joinL (wl.take i)).length k∧wr.ownsRow W3.heap.size 3 1 (.slice K (joinL (wl.take i)).length k) (joinL (wl.take i)).length ((joinL (wl.take i)).map (Value.int .i64))∧Below W3.heap.size W3 wr) (fun _ v _=>wl.length - (intOf v).toNat)
 case atStart=>exact ⟨0,none,0,Nat.zero_le _,rfl,rfl,World.ownsRow_nil _ _ _ _,Below.refl _ _⟩
 case round=>
  obtain ⟨i,K,k,hi,rfl,rfl,ho,hbr⟩:=hrel
  have HO:=Lib.hid ho
  have hrs:=hbr.size
  clear ho
  by_cases hlt:i < wl.length
  ·obtain ⟨bb,oo,C4,c4,rfl,hcell3,hcc,hI⟩:=HRW.out.at hlt
   have hcell:=(hbr.cell (p:=⟨bb,oo+i,none⟩) (World.block_lt_of_cell? W3 _ hcell3)).trans hcell3
   have HI:=Lib.hid hI
   have HT:=Lib.hid (joinL_take hlt)
   have hj:=JL.out i
   have hwl:wl[i].length≤els.length:=WLM.out _ (List.getElem_mem hlt)
   have HJ:=Lib.hid hbr
   clear hI hbr hcell3 HRW
   generalize hj1:joinL (wl.take (i+1))=j1 at *
   have HJ1:=Lib.hid hj1
   clear hj1
   generalize joinL (wl.take i)=j0 at *
   generalize wl[i]=row at *
   have HI1:=Lib.hid (HI.out.below HJ.out)
   by_cases h0:i=0
   ·have HT0:=Lib.hid (show j1=j0++row from by rw [HT.out,if_pos h0,List.append_nil])
    have hi0:decide ((0:Int) < (i:Int))=false:=by simp;omega
    have hi1:¬0 < i:=by omega
    have hi2:decide (0 < i)=false:=by simpa using hi1
    clear h0
    clear HT
    go_wp2_with (at_builtin;refine wpList_app _ _ 37 3 (.int .i64 0) 1 8 rfl rfl Tryz.underlying37 info_int rfl (by decide) (by decide) rfl HO.out rfl HI1.out (by simp) (oneCell_ints _) (by omega) hrs ?_;intro K3 k3 w3 hown3 hc3 hb3 hg3 hB3)
    have HO3:=Lib.hid hown3
    have HB3':=Lib.hid (HJ.out.trans hb3)
    clear hown3 hc3 hb3 hg3 hB3
    go_wp2_with fail
    go_roundw
    case rel=>exact ⟨i+1,K3,k3,by omega,by go_num,by rw [HJ1.out,HT0.out,List.length_append],by rw [HJ1.out,HT0.out,List.length_append,List.map_append];exact HO3.out,HB3'.out⟩
    case measure=>simp [intOf];omega
   ·have HT0:=Lib.hid (show j1=(j0++[0])++row from by rw [HT.out,if_neg h0])
    clear HT
    have hi0:decide ((0:Int) < (i:Int))=true:=by simp;omega
    have HAL:=Lib.hid (fun (o:Obj)=>show Below wr.heap.size wr (wr.alloc o) from (Below.refl _ _).alloc (Nat.le_refl _) _)
    go_upto_region 8 with (at_builtin;refine wpList_app _ _ 37 3 (.int .i64 0) 1 8 rfl rfl Tryz.underlying37 info_int rfl (by decide) (by decide) rfl (HO.out.alloc _) rfl (Ints_new wr [0] _ rfl) (by simp) (oneCell_ints _) (by omega) (by simp;omega) ?_;intro K3 k3 w3 hown3 hc3 hb3 hg3 hB3)
    have HO3:=Lib.hid hown3
    have hb4:=HJ.out.trans (((HAL.out _).mono hrs).trans hb3)
    have HJ4:=Lib.hid hb4
    have hrs4:=hb4.size
    have HI4:=Lib.hid (HI.out.below hb4)
    clear hown3 hc3 hb3 hg3 hB3 hb4
    go_wp2_with (at_builtin;refine wpList_app _ _ 37 3 (.int .i64 0) 1 8 rfl rfl Tryz.underlying37 info_int rfl (by decide) (by decide) rfl HO3.out rfl HI4.out (by simp) (oneCell_ints _) (by omega) hrs4 ?_;intro K5 k5 w5 hown5 hc5 hb5 hg5 hB5)
    have HO5:=Lib.hid hown5
    have HB5':=Lib.hid (HJ4.out.trans hb5)
    clear hown5 hc5 hb5 hg5 hB5
    go_wp2_with fail
    go_roundw
    case rel=>exact ⟨i+1,K5,k5,by omega,by go_num,by rw [HJ1.out,HT0.out,List.length_append,List.length_append];rfl,by rw [HJ1.out,HT0.out,List.length_append,List.map_append,List.length_append,List.map_append];exact HO5.out,HB5'.out⟩
    case measure=>simp [intOf];omega
  ·obtain rfl:i=wl.length:=by omega
   have hj:=JL.out wl.length
   rw [List.take_length] at HO hj ⊢
   have hbw5:=HB3.out.trans (hbr.mono hs3)
   have HB5w:=Lib.hid hbw5
   have q3:=(hbw5.cell (p:=⟨w.heap.size+1+1,3,none⟩) l2).trans (HZ.out.2.2.cell (i:=3) rfl)
   have hw3:w.heap.size≤W3.heap.size:=by have:=HBW.out.size;exact this
   have HJ:=Lib.hid hbr
   clear hbr hbw5 JL WLM HRW
   generalize joinL wl=j0 at *
   cases idn with
   | false=>
    have HK2:=Lib.hid (show ky=j0 from by rw [HK.out,if_neg (by simp),List.append_nil])
    clear HK DC IL
    go_wp2_with fail
    go_ret
    exact ⟨K,k,by rw [HK2.out];rfl,by rw [HK2.out];exact own_mono HO.out hw3,HBW.out.trans (HJ.out.mono hw3)⟩
   | true=>
    have HK2:=Lib.hid (show ky=(j0++[0])++idnL d from by rw [HK.out,if_pos rfl,List.append_assoc];rfl)
    have IS:=Lib.hid (fun i (hi:i < d.length)=>idnL_take hi)
    have HAL:=Lib.hid (fun (o:Obj)=>show Below wr.heap.size wr (wr.alloc o) from (Below.refl _ _).alloc (Nat.le_refl _) _)
    clear HK
    go_upto_region 13 with (at_builtin;refine wpList_app _ _ 37 3 (.int .i64 0) 1 8 rfl rfl Tryz.underlying37 info_int rfl (by decide) (by decide) rfl (HO.out.alloc _) rfl (Ints_new wr [0] _ rfl) (by simp) (oneCell_ints _) (by omega) (by simp;omega) ?_;intro K3 k3 w3 hown3 hc3 hb3 hg3 hB3)
    have hb4:=HJ.out.trans (((HAL.out _).mono hrs).trans hb3)
    have HJ4:=Lib.hid hb4
    have hrs4:=hb4.size
    have hbw5:=HB3.out.trans (hb4.mono hs3)
    have q0:=(hbw5.cell (p:=⟨w.heap.size,0,none⟩) l0).trans (HZ.out.1.cell (i:=0) rfl)
    have q1:=(hbw5.cell (p:=⟨w.heap.size,1,none⟩) l0).trans (HZ.out.1.cell (i:=1) rfl)
    have q2:=(hbw5.cell (p:=⟨w.heap.size,2,none⟩) l0).trans (HZ.out.1.cell (i:=2) rfl)
    have CD:=Lib.hid (DC.out w3 (HBW.out.trans (hb4.mono hw3)))
    have HO3:=Lib.hid (show w3.ownsRow W3.heap.size 3 1 (.slice K3 (j0++[0]).length k3) (j0++[0]).length ((j0++[0]).map (Value.int .i64)) from by
     rw [List.length_append,List.map_append];exact hown3)
    have hl3:(j0++[0]).length=j0.length+1:=by simp
    have HL3:=Lib.hid hl3
    have hlt3:(j0++[0]).length≤4*(els.length+1)+1:=by omega
    clear hown3 hc3 hb3 hg3 hB3 hb4 DC q3 hl3
    generalize hjz:j0++[0]=jz at *
    clear hjz
    go_wp2_with fail
    with_reducible refine CD.out.mono ?_
    rintro e W6 ⟨D6,d6,rfl,hown6,hb6⟩
    have HD6:=Lib.hid hown6
    have hkb:∀q,blk K3=some q→W3.heap.size≤q∧q < w3.heap.size:=fun q hq=>HO3.out.lt q (by rw [ownBlock_blk];exact hq)
    have HKB:=Lib.hid hkb
    have HG6:=Lib.hid (show Grw W6 W6 W3.heap.size K3 K3 k3 (jz++idnL (d.take 0)) from by
     rw [List.take_zero,show idnL []=[] from rfl,List.append_nil]
     exact ⟨own_keep HO3.out hb6,grownR_refl _ _,.inl rfl⟩)
    have h36:W3.heap.size≤W6.heap.size:=by have:=hb6.size;omega
    have HB6:=Lib.hid (show Below W3.heap.size W3 W6 from HJ4.out.trans (hb6.mono hrs4))
    clear hown6 hb6 hkb CD q0 q1 q2 hbw5
    go_wp2_with fail
    go_loopw [9,48] (fun u v wr=>∃(i:Nat) (K:Option Addr) (k:Nat),i≤d.length∧v=.int .i64 i∧u=.slice K (jz++idnL (d.take i)).length k∧Grw W6 wr W3.heap.size K3 K k (jz++idnL (d.take i))) (fun _ v _=>d.length - (intOf v).toNat)
    case atStart=>exact ⟨0,K3,k3,Nat.zero_le _,rfl,by rw [List.take_zero,show idnL []=[] from rfl,List.append_nil,HL3.out],HG6.out⟩
    case round=>
     obtain ⟨i,K,k,hi,rfl,rfl,hg⟩:=hrel
     have HG:=Lib.hid hg
     have hgs:=hg.gr.size
     have HDI:=Lib.hid (hg.ints HD6.out (fun q hq=>(HKB.out q hq).2))
     clear hg HG6
     by_cases hlt:i < d.length
     ·obtain ⟨bb,oo,rfl,hcell⟩:=HDI.out.at hlt
      have hc0:=hcell i hlt
      have ISi:=Lib.hid (IS.out i hlt)
      have hil:=IL.out i
      rw [List.length_take] at hil
      have hlj:(jz++idnL (d.take i)).length≤jz.length+d.length:=by rw [List.length_append];omega
      clear hcell HDI
      generalize hj1:idnL (d.take (i+1))=j1 at *
      have HJ1:=Lib.hid hj1
      clear hj1
      generalize d[i]=z at *
      by_cases hz:0≤z∧z≤1114111
      ·obtain ⟨hz1,hz2⟩:=hz
       have HT0:=Lib.hid (show jz++j1=(jz++idnL (d.take i))++[z+1] from by rw [ISi.out,if_pos ⟨hz1,hz2⟩,List.append_assoc])
       have e1:decide (0≤z)=true:=by simpa using hz1
       have e2:decide (z≤1114111)=true:=by simpa using hz2
       clear ISi hil
       generalize jz++idnL (d.take i)=j0' at *
       go_wp2_with (at_builtin;refine wpList_app _ _ 37 3 (.int .i64 0) 1 8 rfl rfl Tryz.underlying37 info_int rfl (by decide) (by decide) rfl (HG.out.own.alloc _) rfl (Ints_new wr [z+1] _ rfl) (by simp) (oneCell_ints _) (by omega) (by simp;omega) ?_;intro K5 k5 w5 hown5 hc5 hb5 hg5 hB5)
       have HG5:=Lib.hid (HG.out.app (ys:=[z+1]) hown5 hg5 hB5)
       clear hown5 hc5 hb5 hg5 hB5
       go_wp2_with fail
       go_roundw
       case rel=>exact ⟨i+1,K5,k5,by omega,by go_num,by rw [HJ1.out,HT0.out,List.length_append];rfl,by rw [HJ1.out,HT0.out];exact HG5.out⟩
       case measure=>simp [intOf];omega
      ·have HT0:=Lib.hid (show jz++j1=jz++idnL (d.take i) from by rw [ISi.out,if_neg hz,List.append_nil])
       clear ISi hil
       generalize jz++idnL (d.take i)=j0' at *
       by_cases hz1:0≤z
       ·have hz2:¬z≤1114111:=fun g=>hz ⟨hz1,g⟩
        have e1:decide (0≤z)=true:=by simpa using hz1
        have e2:decide (z≤1114111)=false:=by simpa using hz2
        clear hz hz2 hz1
        go_wp2_with fail
        go_roundw
        case rel=>exact ⟨i+1,K,k,by omega,by go_num,by rw [HJ1.out,HT0.out],by rw [HJ1.out,HT0.out];exact HG.out⟩
        case measure=>simp [intOf];omega
       ·have e1:decide (0≤z)=false:=by simpa using hz1
        clear hz hz1
        go_wp2_with fail
        go_roundw
        case rel=>exact ⟨i+1,K,k,by omega,by go_num,by rw [HJ1.out,HT0.out],by rw [HJ1.out,HT0.out];exact HG.out⟩
        case measure=>simp [intOf];omega
     ·obtain rfl:i=d.length:=by omega
      rw [List.take_length] at HG ⊢
      have HLW:=Lib.hid (HG.out.low h36 (fun q hq=>(HKB.out q hq).1))
      have HKY:=Lib.hid (show jz++idnL d=ky from HK2.out.symm)
      clear HDI IS IL HK2
      generalize jz++idnL d=jf at *
      go_wp2_with fail
      go_ret
      exact ⟨K,k,by rw [←HKY.out];rfl,by rw [←HKY.out];exact own_mono HG.out.own hw3,HBW.out.trans ((HB6.out.trans HLW.out).mono hw3)⟩
end Go.Proofs.YtijgbonhjcblcaaGreatDoor
namespace Go.Proofs.YtijgbonhjcblcaaGreatDoor.Pk
open Go.RowKit
theorem cmp_neg:∀u v:List Int,cmpL u v=-cmpL v u
 | [],[]=>rfl
 | [],_::_=>rfl
 | _::_,[]=>rfl
 | a::u,b::v=>by
  unfold cmpL
  by_cases h:a < b
  ·rw [if_pos h,if_neg (by omega),if_pos h]
  ·rw [if_neg h]
   by_cases h2:b < a
   ·rw [if_pos h2,if_pos h2];rfl
   ·rw [if_neg h2,if_neg h2,if_neg h,cmp_neg u v]
def fst (u:List Int):Int:=u.head?.getD 0
def low (m:Int) (q:Nat):List Int:=if q=0 then [] else [m+q - 1]
def Te (s t:List Int):Prop:=(s=[]∧t=[])∨∃a b,s=0::a∧t=0::b
theorem Te.fst {s t:List Int} (h:Te s t):Pk.fst s=0∧Pk.fst t=0:=by
 rcases h with ⟨rfl,rfl⟩ | ⟨a,b,rfl,rfl⟩ <;> exact ⟨rfl,rfl⟩
section
variable {m:Int}
end
def b4 (x:Int):List Int:=[x / 16777216,x / 65536 % 256,x / 256 % 256,x % 256]
def vb (x:Int):List Int:=if x < 64 then [x] else if x < 16384 then [64+x / 256,x % 256] else [128,x / 65536,x / 256 % 256,x % 256]
end Go.Proofs.YtijgbonhjcblcaaGreatDoor.Pk
