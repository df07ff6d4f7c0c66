/- Texts that are merged into one file: ExpB, TMatchB, SortFnA, SortFnB. -/
import Derived.Test.YtkhmjidaeliccaaGreatDoorA04
import Derived.Test.YtkhmjidaeliccaaGreatDoorA08
import Derived.Test.YtkhmjidaeliccaaGreatDoorA11
import Derived.Test.YtkhmjidaeliccaaGreatDoorProg
import Derived.RegionTactic
import Derived.BigRegion
import Derived.Outline
import Derived.StillTailTactics
import Derived.Deep.RegionWith
import Derived.Deep.QuietTactic
import Derived.BigQuiet
set_option maxRecDepth 100000
set_option maxHeartbeats 51200000
namespace Go.Proofs.YtkhmjidaeliccaaGreatDoor
open Go.RowKit Go.Maps Go.WideMaps
theorem below_of_grown {a w:World} {U B:Nat} (h:a.grownBy w (some U)) (hB:B≤U) (hB2:B≤a.heap.size):Below B a w:=
 ⟨h.os,h.tape,h.output,h.size,fun k hk=>h.block k (by omega) (fun e=>by injection e with e;omega)⟩
theorem flat_take_le (vs:List (List Int)) (i:Nat):(vs.take i).flatten.length≤vs.flatten.length:=by
 conv=>rhs;rw [←List.take_append_drop i vs,List.flatten_append,List.length_append]
 omega
theorem flat_take_succ {vs:List (List Int)} {i:Nat} (hi:i < vs.length):(vs.take (i+1)).flatten=(vs.take i).flatten++vs[i]:=by
 rw [List.take_succ_eq_append_getElem hi,List.flatten_append,List.flatten_singleton]
structure XLoop (A0:Option Addr) (n0 k0:Nat) (A1:Option Addr) (n1 k1:Nat) (A2:Option Addr) (n2 k2:Nat) (ms:List Mp) (compat:Bool) (s:Nat) (Q:Int→Prop) (fl:List Int) (w w1:World) (n:Nat) (f:Int→Option Value) (B:Option Addr) (k:Nat) (W:World) (n':Nat) (f':Int→Option Value):Prop where
 own:W.ownsRow w1.heap.size 3 1 (.slice B fl.length k) fl.length (fl.map (Value.int .i64))
 st:XM A0 n0 k0 A1 n1 k1 A2 n2 k2 ms compat s W n' f'
 gr:w1.grownBy W (some (s+2))
 pot:n'+unmarked (uM ms) (mkF f')≤n+unmarked (uM ms) (mkF f)
 fr:∀x E' m d,f' x=some (.slice E' m d)→f x=some (.slice E' m d)∨m=0∨∀b o,E'=some ⟨b,o,none⟩→w.heap.size≤b
 mks:∀x,f' x≠none→f x≠none∨Q x
 ap:Apart f' B
section
variable {A0:Option Addr} {n0 k0:Nat} {A1:Option Addr} {n1 k1:Nat} {A2:Option Addr} {n2 k2:Nat} {ms:List Mp} {compat:Bool} {s:Nat} {Q:Int→Prop} {e:Int} {fl l:List Int} {w w1:World} {n:Nat} {f:Int→Option Value} {B:Option Addr} {k:Nat} {W:World} {n':Nat} {f':Int→Option Value}
theorem XLoop.lt (h:XLoop A0 n0 k0 A1 n1 k1 A2 n2 k2 ms compat s Q fl w w1 n f B k W n' f'):w1.heap.size≤W.heap.size:=h.gr.size
theorem XLoop.call (h:XLoop A0 n0 k0 A1 n1 k1 A2 n2 k2 ms compat s Q fl w w1 n f B k W n' f') (hw:w.heap.size≤w1.heap.size) (hs:s+4 < w1.heap.size) (he:∀x,x=e∨Path (onM ms compat) e x→Q x) {E:Option Addr} {W2:World} {n2':Nat} {f2:Int→Option Value}
  (p:XRet A0 n0 k0 A1 n1 k1 A2 n2 k2 ms compat s e l W n' f' E W2 n2' f2):XLoop A0 n0 k0 A1 n1 k1 A2 n2 k2 ms compat s Q fl w w1 n f B k W2 n2' f2:=by
 have hbl:∀g o,B=some ⟨g,o,none⟩→w1.heap.size≤g∧g < W.heap.size:=by
  intro g o hB
  subst hB
  rcases h.own.2 with ⟨hv,_⟩ | ⟨g',cap,cur,hv,h1,h2,_⟩
  ·cases hv
  ·injection hv with hv
   injection hv with hv
   injection hv with hv
   subst hv
   exact ⟨h1,(Array.getElem?_eq_some_iff.1 h2).1⟩
 refine ⟨h.own.kept p.gr ?_,p.st,grownR_trans h.gr p.gr,Nat.le_trans p.pot h.pot,fun x E' m d e1=>?_,fun x e1=>?_,?_⟩
 ·cases B with
  | none=>exact .inl rfl
  | some a=>
   right
   rcases h.own.2 with ⟨hv,_⟩ | ⟨g',cap,cur,hv,h1,h2,_⟩
   ·cases hv
   ·injection hv with hv
    rw [hv]
    simp only [Value.ownBlock]
    intro e2
    injection e2 with e2
    omega
 ·rcases p.fr x E' m d e1 with e2 | e2 | e2
  ·exact h.fr x E' m d e2
  ·exact .inr (.inl e2)
  ·exact .inr (.inr fun b o hb=>by have:=e2 b o hb;have:=h.lt;omega)
 ·rcases p.mks x e1 with e2 | e2 | e2
  ·exact h.mks x e2
  ·exact .inr (he x (.inl e2))
  ·exact .inr (he x (.inr e2))
 ·intro x E' m d b o b' o' e1 hE hB
  rcases p.fr x E' m d e1 with e2 | e2 | e2
  ·exact h.ap x E' m d b o b' o' e2 hE hB
  ·exact .inl e2
  ·right
   have:=e2 b o hE
   have:=hbl b' o' hB
   omega
theorem XLoop.app (h:XLoop A0 n0 k0 A1 n1 k1 A2 n2 k2 ms compat s Q fl w w1 n f B k W n' f') (hs:s+4 < w1.heap.size) {B':Option Addr} {k':Nat} {W':World} {zs:List Int}
  (ho:W'.ownsRow w1.heap.size 3 1 (.slice B' (fl.length+zs.length) k') (fl.length+zs.length) (fl.map (Value.int .i64)++zs.map (Value.int .i64))) (hb:Below w1.heap.size W W') (hg:W.grownBy W' (Value.ownBlock (.slice B fl.length k))) (hB:B'=B∨B'=some ⟨W.heap.size,0,none⟩) :
  XLoop A0 n0 k0 A1 n1 k1 A2 n2 k2 ms compat s Q (fl++zs) w w1 n f B' k' W' n' f':=by
 refine ⟨by rw [List.length_append,List.map_append];exact ho,h.st.app h.own h.ap hg hb hs,grown_belowB h.gr hb (Nat.le_refl _),h.pot,h.fr,h.mks,?_⟩
 rcases hB with rfl | rfl
 ·exact h.ap
 ·exact h.st.apart_new
end
theorem expand_found (A0:Option Addr) (n0 k0:Nat) (A1:Option Addr) (k1:Nat) (A2:Option Addr) (n2 k2:Nat) (s:Nat) (ms:List Mp) (compat:Bool) (w0:World) (_hs0:s=w0.heap.size) (_hA:Mps w0 A1 ms) (_hst:StF ms) (_hco:CodesOk ms) (_hbig:ms.length≤1048576) (c:Int) (l:List Int) (hF:Full (onM ms compat) c l) (hc:iok c)
  (w:World) (n:Nat) (f:Int→Option Value) (hms:XM A0 n0 k0 A1 ms.length k1 A2 n2 k2 ms compat s w n f) (_hbel:Below s w0 w) (_hn:n+unmarked (uM ms) (mkF f)≤1000000000) {v:Value} (hfc:f c=some v) :
  Calls Tryz.prog 118 #[.int .i64 c,.pointer (some ⟨s+3,0,none⟩),.pointer (some ⟨s,0,none⟩),.pointer (some ⟨s+1,0,none⟩),.pointer (some ⟨s+4,0,none⟩)] w
   (XRetE A0 n0 k0 A1 ms.length k1 A2 n2 k2 ms compat s c l w n f):=by
 obtain ⟨E,d,l',rfl,h2,h3,h4⟩:=hms.fd c v hfc
 obtain rfl:=h3.func hF
 have qm:w.cell? ⟨s+3,0,none⟩=some (.map (some (s+2))):=hms.bM.cell rfl
 have HM:=Lib.hid hms
 have HE:=Lib.hid h4
 clear hms _hA _hst _hco h3 hF h4 _hs0
 go_enter Tryz.func118,Tryz.ntmps118
 go_wp2_with (at_lookup;refine wpList_lookOk rfl _ _ 171 rfl HM.out.mp law_int Tryz.underlying171 (zero_intsM _) rfl rfl hc (key_int hc) ?_;rw [hfc];simp only [Option.getD_some,Option.isSome_some])
 go_ret
 exact ⟨E,d,n,f,rfl,h2,HE.out,HM.out,grownR_refl w _,Nat.le_refl _,fun x E' m d e=>.inl e,fun x e=>.inl e⟩
theorem expand_leaf (A0:Option Addr) (n0 k0:Nat) (A1:Option Addr) (k1:Nat) (A2:Option Addr) (n2 k2:Nat) (s:Nat) (ms:List Mp) (compat:Bool) (w0:World) (hs0:s=w0.heap.size) (hA:Mps w0 A1 ms) (hst:StF ms) (_hco:CodesOk ms) (hbig:ms.length≤1048576) (c:Int) (hR:onM ms compat c=none) (hc:iok c)
  (w:World) (n:Nat) (f:Int→Option Value) (hms:XM A0 n0 k0 A1 ms.length k1 A2 n2 k2 ms compat s w n f) (hbel:Below s w0 w) (_hn:n+unmarked (uM ms) (mkF f)≤1000000000) (hfc:f c=none) :
  Calls Tryz.prog 118 #[.int .i64 c,.pointer (some ⟨s+3,0,none⟩),.pointer (some ⟨s,0,none⟩),.pointer (some ⟨s+1,0,none⟩),.pointer (some ⟨s+4,0,none⟩)] w
   (XRetE A0 n0 k0 A1 ms.length k1 A2 n2 k2 ms compat s c [c] w n f):=by
 have ON:=Lib.hid (fun W (hb:Below s w0 W)=>once_any A0 n0 k0 A1 ms.length k1 A2 n2 k2 ms c compat W (hA.below (hs0 ▸ hb)) rfl hbig hst)
 have q0:w.cell? ⟨s,0,none⟩=some (.slice A0 n0 k0):=hms.bN.cell rfl
 have q1:w.cell? ⟨s,1,none⟩=some (.slice A1 ms.length k1):=hms.bN.cell rfl
 have q2:w.cell? ⟨s,2,none⟩=some (.slice A2 n2 k2):=hms.bN.cell rfl
 have qb:w.cell? ⟨s+1,0,none⟩=some (.bool compat):=hms.bB.cell rfl
 have qm:w.cell? ⟨s+3,0,none⟩=some (.map (some (s+2))):=hms.bM.cell rfl
 have HM:=Lib.hid hms
 rw [hR] at ON
 clear hms hA hst _hco hR hs0
 go_enter Tryz.func118,Tryz.ntmps118
 go_wp2_with (at_lookup;refine wpList_lookOk rfl _ _ 171 rfl HM.out.mp law_int Tryz.underlying171 (zero_intsM _) rfl rfl hc (key_int hc) ?_;rw [hfc];simp only [Option.getD_none,Option.isSome_none])
 with_reducible refine (ON.out _ hbel).mono ?_
 rintro e w1 ⟨E,d,rfl,hd,hE,hb1⟩
 simp only [Option.getD_none,Option.isSome_none]
 have HM1:=Lib.hid (HM.out.below hb1)
 clear ON hE hd
 go_wp2_with fail
 go_ret
 have hb2:=hb1.alloc hb1.size (.cells #[.int .i64 c] 3)
 exact ⟨some ⟨w1.heap.size,0,none⟩,1,n,f,rfl,Nat.le_refl _,Ints_new w1 [c] _ rfl,HM1.out.below ((Below.refl _ _).alloc (Nat.le_refl _) _),grownR_below (grownR_refl w _) hb2,Nat.le_refl _,fun x E' m d e=>.inl e,fun x e=>.inl e⟩
theorem expand_node (A0:Option Addr) (n0 k0:Nat) (A1:Option Addr) (k1:Nat) (A2:Option Addr) (n2 k2:Nat) (s:Nat) (ms:List Mp) (compat:Bool) (w0:World) (hs0:s=w0.heap.size) (hA:Mps w0 A1 ms) (hst:StF ms) (hco:CodesOk ms) (hbig:ms.length≤1048576) (c:Int) (to:List Int) (vs:List (List Int)) (hR:onM ms compat c=some to) (hlen:vs.length=to.length) (hk:∀i,(hi:i < to.length)→(hv:i < vs.length)→Full (onM ms compat) to[i] vs[i])
  (ih:∀i,(hi:i < to.length)→(hv:i < vs.length)→XOk A0 n0 k0 A1 ms.length k1 A2 n2 k2 ms compat s w0 to[i] vs[i]) (hc:iok c) (hl:vs.flatten.length≤4096)
  (w:World) (n:Nat) (f:Int→Option Value) (hms:XM A0 n0 k0 A1 ms.length k1 A2 n2 k2 ms compat s w n f) (hbel:Below s w0 w) (hn:n+unmarked (uM ms) (mkF f)≤1000000000) (hfc:f c=none) :
  Calls Tryz.prog 118 #[.int .i64 c,.pointer (some ⟨s+3,0,none⟩),.pointer (some ⟨s,0,none⟩),.pointer (some ⟨s+1,0,none⟩),.pointer (some ⟨s+4,0,none⟩)] w
   (XRetE A0 n0 k0 A1 ms.length k1 A2 n2 k2 ms compat s c vs.flatten w n f):=by
 have ON:=Lib.hid (fun W (hb:Below s w0 W)=>once_any A0 n0 k0 A1 ms.length k1 A2 n2 k2 ms c compat W (hA.below (hs0 ▸ hb)) rfl hbig hst)
 have q0:w.cell? ⟨s,0,none⟩=some (.slice A0 n0 k0):=hms.bN.cell rfl
 have q1:w.cell? ⟨s,1,none⟩=some (.slice A1 ms.length k1):=hms.bN.cell rfl
 have q2:w.cell? ⟨s,2,none⟩=some (.slice A2 n2 k2):=hms.bN.cell rfl
 have qb:w.cell? ⟨s+1,0,none⟩=some (.bool compat):=hms.bB.cell rfl
 have qm:w.cell? ⟨s+3,0,none⟩=some (.map (some (s+2))):=hms.bM.cell rfl
 have HM:=Lib.hid hms
 have HNW:=Lib.hid ((Full.node hR hlen hk).noway)
 have HFU:=Lib.hid (Full.node hR hlen hk)
 have HU:=Lib.hid (onM_uM hR)
 have HED:=Lib.hid (fun e (he:e ∈ to) x (h:x=e∨Path (onM ms compat) e x)=>show Path (onM ms compat) c x from h.elim (fun g=>g ▸ .one ⟨to,hR,he⟩) (fun g=>g.front ⟨to,hR,he⟩))
 have HIO:=Lib.hid (onM_codes hco hR)
 have HTL:=Lib.hid (onM_kids hco hR).1
 have IH:=Lib.hid ih
 have HLN:=Lib.hid hlen
 rw [hR] at ON
 have hsw:s+4 < w.heap.size:=hms.bX.lt
 clear hms hA hst hco hR hk ih hlen hs0
 go_enter Tryz.func118,Tryz.ntmps118
 go_wp2_with (at_lookup;refine wpList_lookOk rfl _ _ 171 rfl HM.out.mp law_int Tryz.underlying171 (zero_intsM _) rfl rfl hc (key_int hc) ?_;rw [hfc];simp only [Option.getD_none,Option.isSome_none])
 with_reducible refine (ON.out _ hbel).mono ?_
 rintro e w1 ⟨E,d,rfl,hd,hE,hb1⟩
 simp only [Option.getD_some,Option.isSome_some] at hd hE ⊢
 have HM1:=Lib.hid (HM.out.below hb1)
 have hsw1:s+4 < w1.heap.size:=by have:=hb1.size;omega
 have hww:w.heap.size≤w1.heap.size:=hb1.size
 have HG1:=Lib.hid (show w.grownBy w1 (some (s+2)) from grownR_below (grownR_refl w _) hb1)
 have htl:=HTL.out
 have HB1:=Lib.hid (hbel.trans (hb1.mono (by omega:s≤w.heap.size)))
 have HE:=Lib.hid hE
 clear ON hE hb1 q0 q1 q2 qb qm
 go_wp2_with fail
 go_loopw [11,35] (fun u q wr=>∃(i n':Nat) (f':Int→Option Value) (B:Option Addr) (k:Nat),i≤to.length∧u=.slice B ((vs.take i).flatten).length k∧q=.int .i64 i∧XLoop A0 n0 k0 A1 ms.length k1 A2 n2 k2 ms compat s (Path (onM ms compat) c) ((vs.take i).flatten) w w1 n f B k wr n' f')
  (fun _ q _=>to.length - (intOf q).toNat)
 case atStart=>
  exact ⟨0,n,f,none,0,Nat.zero_le _,rfl,rfl,⟨World.ownsRow_nil _ _ _ _,HM1.out,grownR_refl _ _,Nat.le_refl _,fun x E' m d e=>.inl e,fun x e=>.inl e,Apart.nil f⟩⟩
 case round=>
  obtain ⟨i,n',f',B,k,hile,rfl,rfl,HL0⟩:=hrel
  have HL:=Lib.hid HL0
  clear HL0
  by_cases hi:i < to.length
  ·have hv:i < vs.length:=by rw [HLN.out];exact hi
   obtain ⟨b,o,rfl,hcell⟩:=(show Ints wr E to from Sl.grownM HE.out HL.out.gr HM1.out.mp.nocell).at hi
   have hc0:=hcell i hi
   clear hcell
   have p5:wr.cell? ⟨s+4,0,none⟩=some (.func (.func 118) #[] #[.pointer (some ⟨s+3,0,none⟩),.pointer (some ⟨s,0,none⟩),.pointer (some ⟨s+1,0,none⟩),.pointer (some ⟨s+4,0,none⟩)]):=HL.out.st.bX.cell rfl
   have hmem:to[i] ∈ to:=List.getElem_mem hi
   have hfl:((vs.take i).flatten).length+vs[i].length≤4096:=by
    have h1:=flat_take_le vs (i+1)
    rw [flat_take_succ hv,List.length_append] at h1
    omega
   have CL:=Lib.hid (IH.out i hi hv (HIO.out _ hmem) (by omega) wr n' f' HL.out.st (HB1.out.trans (below_of_grown HL.out.gr (by omega) (by omega))) (by have:=HL.out.pot;omega))
   have NX:=Lib.hid (fun (E2:Option Addr) W n9 f9 (p:XRet A0 n0 k0 A1 ms.length k1 A2 n2 k2 ms compat s to[i] vs[i] wr n' f' E2 W n9 f9)=>HL.out.call hww hsw1 (HED.out _ hmem) p)
   have FSq:=Lib.hid (flat_take_succ hv)
   clear hmem
   generalize to[i]=te at *
   generalize vs[i]=ve at *
   generalize (vs.take i).flatten=fl at *
   go_wp2_with fail
   with_reducible refine CL.out.mono ?_
   rintro e W ⟨E2,d2,n9,f9,rfl,hd2,hp⟩
   have HL2:=Lib.hid (NX.out E2 W n9 f9 hp)
   have HE2:=Lib.hid hp.ints
   clear hp CL NX p5 HL
   go_wp2_with (at_builtin;refine wpList_app _ _ 33 3 (.int .i64 0) 1 8 rfl rfl Tryz.underlying33 info_int rfl (by decide) (by decide) rfl HL2.out.own rfl HE2.out (by simp) (oneCell_ints _) (by omega) HL2.out.lt ?_;intro B3 k3 w3 hown3 hc3 hb3 hg3 hB3)
   have HL3:=Lib.hid (HL2.out.app hsw1 hown3 hb3 hg3 hB3)
   clear hown3 hb3 hg3 hB3 HL2 HE2
   go_wp2_with fail
   go_roundw
   case rel=>exact ⟨i+1,n9,f9,B3,k3,by omega,by rw [FSq.out,List.length_append],by go_num,by rw [FSq.out];exact HL3.out⟩
   case measure=>simp [intOf];omega
  ·have hi':i=to.length:=by omega
   subst hi'
   have p3:wr.cell? ⟨s+3,0,none⟩=some (.map (some (s+2))):=HL.out.st.bM.cell rfl
   have hfe:(vs.take to.length).flatten=vs.flatten:=by rw [←HLN.out,List.take_length]
   rw [hfe] at HL ⊢
   have hfc':f' c=none:=by
    cases hx:f' c with
    | none=>rfl
    | some v=>
     rcases HL.out.mks c (by rw [hx];simp) with e | e
     ·exact absurd hfc e
     ·exact absurd e HNW.out
   have hpot:n'+1+unmarked (uM ms) (putM (mkF f') c 0)≤n+unmarked (uM ms) (mkF f):=by
    have h1:=unmarked_put (k:=0) HU.out (mkF_none.2 hfc')
    have h2:=HL.out.pot
    omega
   have HPOT:=Lib.hid hpot
   have hnn:n' < maxLen:=by unfold maxLen;omega
   obtain ⟨hkk,hbl⟩:vs.flatten.length≤k∧∀g o,B=some ⟨g,o,none⟩→w.heap.size≤g:=by
    refine ⟨?_,fun g o hB=>?_⟩
    ·obtain ⟨_,_,hv,hk⟩:=own_form HL.out.own
     injection hv with _ _ hv
     subst hv
     exact hk
    ·subst hB
     rcases HL.out.own.2 with ⟨hv,_⟩ | ⟨g',cap,cur,hv,h1,h2,_⟩
     ·cases hv
     ·injection hv with hv
      injection hv with hv
      injection hv with hv
      subst hv
      omega
   have HBL:=Lib.hid hbl
   have HEX:=Lib.hid (show Ints wr B vs.flatten from Sl.of_own HL.out.own)
   clear hpot hfc' hbl hfe
   generalize vs.flatten=fl at *
   go_wp2_with (at_mapUpdate;refine wpList_mput rfl _ _ _ 171 rfl HL.out.st.mp law_int Tryz.underlying171 hnn rfl rfl rfl hc (key_int hc) (fun y _ e=>ikey_inj e) ?_;intro w3 hM3 hg3)
   go_ret
   refine ⟨B,k,n'+1,_,rfl,hkk,Sl.grownM HEX.out hg3 HL.out.st.mp.nocell,HL.out.st.put hM3 hg3 hkk HFU.out HEX.out,(grownR_trans (grownR_trans HG1.out HL.out.gr) hg3),by rw [mkF_put];exact HPOT.out,fun x E' m d e=>?_,fun x e=>?_⟩
   ·by_cases hx:x=c
    ·rw [if_pos hx] at e
     injection e with e
     injection e with e1 e2 e3
     subst e1
     exact .inr (.inr HBL.out)
    ·rw [if_neg hx] at e
     exact HL.out.fr x E' m d e
   ·by_cases hx:x=c
    ·exact .inr (.inl hx)
    ·rw [if_neg hx] at e
     rcases HL.out.mks x e with e1 | e1
     ·exact .inl e1
     ·exact .inr (.inr e1)
theorem expand_ok (A0:Option Addr) (n0 k0:Nat) (A1:Option Addr) (k1:Nat) (A2:Option Addr) (n2 k2:Nat) (s:Nat) (ms:List Mp) (compat:Bool) (w0:World) (hs0:s=w0.heap.size) (hA:Mps w0 A1 ms) (hst:StF ms) (hco:CodesOk ms) (hbig:ms.length≤1048576) {c:Int} {l:List Int}
  (hfull:Full (onM ms compat) c l):XOk A0 n0 k0 A1 ms.length k1 A2 n2 k2 ms compat s w0 c l:=by
 induction hfull with
 | @leaf c hR=>
  intro hc hl w n f hms hbel hn
  cases hf:f c with
  | some v=>exact expand_found A0 n0 k0 A1 k1 A2 n2 k2 s ms compat w0 hs0 hA hst hco hbig c [c] (.leaf hR) hc w n f hms hbel hn hf
  | none=>exact expand_leaf A0 n0 k0 A1 k1 A2 n2 k2 s ms compat w0 hs0 hA hst hco hbig c hR hc w n f hms hbel hn hf
 | @node c to vs hR hlen hk ih=>
  intro hc hl w n f hms hbel hn
  cases hf:f c with
  | some v=>exact expand_found A0 n0 k0 A1 k1 A2 n2 k2 s ms compat w0 hs0 hA hst hco hbig c _ (.node hR hlen hk) hc w n f hms hbel hn hf
  | none=>exact expand_node A0 n0 k0 A1 k1 A2 n2 k2 s ms compat w0 hs0 hA hst hco hbig c to vs hR hlen hk ih hc hl w n f hms hbel hn hf
end Go.Proofs.YtkhmjidaeliccaaGreatDoor
namespace Go.Proofs.YtkhmjidaeliccaaGreatDoor
open Go.RowKit Go.Maps Go.WideMaps
namespace Mtc
section
variable {E:Type} {cl:Int→Int} {ent:List Int→Option (List E)} {t d part lft:List Int} {z i:Nat} {hi:Int}
theorem MG.take_eq (h:MG cl ent t z d part lft i hi):d.take part.length=part:=by rw [h.eq,List.append_assoc,List.take_left]
theorem MG.mem (h:MG cl ent t z d part lft i hi) {x:Int} (hx:x ∈ part):x ∈ d:=by rw [h.eq];simp [hx]
theorem MG.le_i (h:MG cl ent t z d part lft i hi):part.length≤i:=by have:=h.at_;omega
end
end Mtc
theorem below_of_none {a w:World} (h:a.grownBy w none):Below a.heap.size a w:=⟨h.os,h.tape,h.output,h.size,fun k hk=>h.block k hk (by simp)⟩
theorem cellP {w:World} {b off:Nat} {zs:List Int} (h:Ints w (some ⟨b,off,none⟩) zs) {j:Nat} {u:Value} (hu:(zs.map (Value.int .i64))[j]?=some u):w.cell? ⟨b,off+j,none⟩=some u:=by
 obtain ⟨b',o',hA,hc⟩:=h (by intro e;rw [e] at hu;simp at hu)
 injection hA with hA
 injection hA with h1 h2
 subst h1;subst h2
 exact hc j u hu
theorem tmatch_any (T:Nat) (c:Col) (cs:List Spn) (A0:Option Addr) (k0 b off cap:Nat) (pre post:List Value) (t:List Int) (w0 w:World) (hM:MCtx T c cs A0 k0 b w0) (hw:Below w0.heap.size w0 w) (hR:Row w b off 3 pre post t) (ht:t≠[]) (hbig:t.length≤1048576) (hcap:t.length≤cap) (hcm:cap≤9223372036854775807) (hio:∀z ∈ t,iok z) :
  Calls Tryz.prog 66 #[.pointer (some ⟨T,0,none⟩),.slice (some ⟨b,off,none⟩) t.length cap] w (RetMatch (cls cs) (lastE c.ents) (impE c) b off pre post t w):=by
 have FC:=Lib.hid (fun (A':Option Addr) n cc zs W (hb:Below w0.heap.size w0 W) (hC:Ints W A' zs) (hn:zs.length=n) hn2 hw=>tfind_any T c (.slice A0 cs.length k0) (topS cs) A' n cc zs W (hM.tab.below hb) hC hn hn2 hM.ent hw)
 have CC:=Lib.hid (fun x W (hb:Below w0.heap.size w0 W)=>tclass_any T A0 k0 cs x W (hM.sp.below hb) hM.csz hM.asc (hM.tab.below hb).cl.2 (hM.tab.below hb).cl.1)
 have IC:=Lib.hid (fun x W (hb:Below w0.heap.size w0 W)=>implicit_any T c _ _ x W (hM.tab.below hb) hM.base)
 have TC:=Lib.hid (fun W (hb:Below w0.heap.size w0 W)=>(hM.tab.below hb).cells)
 have LB:=longE_bd (k:=8) (fun x hx=>(hM.ent x hx).2)
 have SM:=Lib.hid (show Mtc.sz (lastE c.ents) t t.length=Mtc.sz (lastE c.ents) t (min (longE c.ents).toNat t.length) from Mtc.sz_min (fun zs hz=>lastE_long (by omega)) _ (Nat.le_refl _))
 have CT:=Lib.hid (cls_top cs)
 have hbb:=hM.hb
 have HIO:=Lib.hid hio
 have HR:=Lib.hid hR
 have hpos:0 < t.length:=List.length_pos_iff.2 ht
 have M0:=Lib.hid (matched_0 (cl:=cls cs) (ent:=lastE c.ents) (t:=t))
 have M1:=Lib.hid (fun z=>matched_1 (cl:=cls cs) (ent:=lastE c.ents) (t:=t) (z:=z))
 obtain ⟨i0,hi0,hiz,his,hib⟩:=info_parts info_int
 clear hM hio hR ht
 unfold RetMatch
 generalize lastE c.ents=ent at *
 generalize cls cs=cl at *
 generalize impE c=imp at *
 generalize topS cs=tp at *
 obtain ⟨L,hL⟩:∃L:Nat,longE c.ents=(L:Int):=⟨(longE c.ents).toNat,by omega⟩
 rw [hL] at TC LB SM
 clear hL
 rw [Int.toNat_natCast] at SM
 have t6:=(TC.out w hw).2.2.2.1
 generalize hmt:Mtc.matched cl ent t=mt at *
 clear hmt
 obtain ⟨z0,hz0⟩:∃z0:Nat,z0=min L t.length:=⟨_,rfl⟩
 rw [←hz0] at SM
 have hz0le:z0≤t.length:=by omega
 have hmin:=fun (W:World) (ts:Array TypeId) (ty:TypeId)=>show (Builtin.min_ ts ty #[.int .i64 (L:Int),.int .i64 (t.length:Int)]).run Tryz.prog W=.ok (.int .i64 (z0:Int)) W from by
  rw [run_min_int2]
  congr 2
  split <;> omega
 clear hz0
 go_enter Tryz.func66,Tryz.ntmps66
 go_wp2_with fail
 clear hmin t6
 go_loopw [7] (fun u wr=>∃z:Nat,z≤t.length∧u=.int .i64 z∧Mtc.sz ent t t.length=Mtc.sz ent t z∧Below w.heap.size w wr) (fun u _=>(intOf u).toNat)
 case atStart=>exact ⟨z0,hz0le,rfl,SM.out,Below.refl _ _⟩
 case round=>
  obtain ⟨z,hz,rfl,hsz,hbel⟩:=hrel
  have HSZ:=Lib.hid hsz
  clear hsz
  have hbw:=hw.trans (hbel.mono hw.size)
  have HRr:=Lib.hid (HR.out.below hbel)
  by_cases hz1:0 < z
  ·have HF:=Lib.hid (FC.out (some ⟨b,off,none⟩) z cap (t.take z) wr hbw (HRr.out.ints.take z) (by rw [List.length_take];omega) (by omega) (fun y hy=>HIO.out y (List.mem_of_mem_take hy)))
   cases he:ent (t.take z) with
   | none=>
    have HS2:=Lib.hid (show Mtc.sz ent t t.length=Mtc.sz ent t (z - 1) from by
     rw [HSZ.out]
     obtain ⟨y,rfl⟩:∃y,z=y+1:=⟨z - 1,by omega⟩
     rw [Mtc.sz_miss (by rw [he];simp)]
     rfl)
    rw [he] at HF
    clear he
    go_wp2_with fail
    refine HF.out.mono ?_
    rintro e W ⟨E,d,rfl,hE,hb⟩
    clear hE HF
    simp only [Option.getD_none,Option.isSome_none]
    go_wp2_with fail
    go_roundw
    case rel=>exact ⟨z - 1,by omega,by go_num,HS2.out,hbel.trans (hb.mono hbel.size)⟩
    case measure=>simp [intOf];omega
   | some l=>
    have HSZE:=Lib.hid (show Mtc.sz ent t t.length=z from by
     rw [HSZ.out]
     obtain ⟨y,rfl⟩:∃y,z=y+1:=⟨z - 1,by omega⟩
     exact Mtc.sz_hit (by rw [he];rfl))
    have HST:=Lib.hid (Mtc.MG.start (cl:=cl) (ent:=ent) (t:=t) hz1 hz (by rw [he];rfl))
    rw [he] at HF
    clear he
    have qz:((z:Int)==0)=false:=by rw [beq_eq_false_iff_ne];omega
    go_wp2_with fail
    refine HF.out.mono ?_
    rintro e W1 ⟨E,d,rfl,hE,hb1⟩
    clear hE HF
    simp only [Option.getD_some,Option.isSome_some]
    have hbel1:=hbel.trans (hb1.mono hbel.size)
    have HR1:=Lib.hid (HR.out.below hbel1)
    have HG1:=Lib.hid (show w.grownBy W1 (some b) from grownR_below (grownR_refl w _) hbel1)
    have hzl:(t.take z).length=z:=by rw [List.length_take];omega
    have HZL:=Lib.hid hzl
    clear hzl HSZ HRr hbw hbel hb1
    go_wp2_with fail
    go_loopw [7,10,11] (fun u l q wr=>∃(d part lft:List Int) (i:Nat) (hi:Int),u=.int .i64 part.length∧l=.int .i64 hi∧q=.int .i64 i∧Mtc.MG cl ent t z d part lft i hi∧Row wr b off 3 pre post d∧(∀x ∈ d,iok x)∧w.grownBy wr (some b))
     (fun _ _ q _=>t.length - (intOf q).toNat)
    case atStart=>exact ⟨t,t.take z,[],z,0,by rw [HZL.out],rfl,rfl,HST.out,HR1.out,HIO.out,HG1.out⟩
    case round=>
     obtain ⟨d,part,lft,i,hi,rfl,rfl,rfl,hmg,hrow,hid,hgr⟩:=hrel
     have HMG:=Lib.hid hmg
     have HRO:=Lib.hid hrow
     have HID:=Lib.hid hid
     have hpi:=hmg.le_i
     have hil:=hmg.le
     have hpp:=hmg.pos
     have hdl:=hmg.len
     have HDL:=Lib.hid hdl
     have hbw:Below w0.heap.size w0 wr:=hw.trans (below_of_grown hgr hbb hw.size)
     have t8:=(TC.out wr hbw).2.2.2.2
     clear hmg hrow hid hdl
     by_cases hil2:i < t.length
     ·have d1:decide ((i:Int) < (t.length:Int))=true:=by simpa using hil2
      by_cases hht:hi < tp
      ·have d2:decide (hi < tp)=true:=by simpa using hht
       have hdi:i < d.length:=by rw [HDL.out];exact hil2
       have ci:wr.cell? ⟨b,off+i,none⟩=some (.int .i64 t[i]):=HRO.out.cell (by rw [List.getElem?_eq_getElem hdi,HMG.out.get hil2 hdi])
       have CX:=Lib.hid (CC.out t[i] wr hbw)
       have STOP:=Lib.hid (fun h=>HMG.out.stop hil2 h)
       have LEAVE:=Lib.hid (fun (hi':Int) h0 h1 hh=>HMG.out.leave (hi':=hi') hil2 h0 h1 hh)
       have TAKE:=Lib.hid (fun h0 h1 h2=>HMG.out.take hil2 h0 h1 h2)
       have HDR:=Lib.hid (show d=part++lft++t[i]::t.drop (i+1) from by rw [HMG.out.eq,HMG.out.drop hil2])
       have hix:=HIO.out t[i] (List.getElem_mem hil2)
       generalize t[i]=x at *
       generalize hcx:cl x=k at *
       have HCX:=Lib.hid hcx
       clear hcx hdi
       go_wp2_with fail
       refine CX.out.mono ?_
       rintro e W2 ⟨rfl,hb2⟩
       have hgr2:=grownR_below hgr hb2
       have HRO2:=Lib.hid (HRO.out.below hb2)
       have hbw2:=hbw.trans (hb2.mono hbw.size)
       clear ci CX t8 HRO
       by_cases hk0:k=0
       ·have HGR:=Lib.hid (STOP.out hk0)
        subst hk0
        clear STOP LEAVE TAKE HDR
        have HMT:=Lib.hid (show mt=(part,lft++t.drop i,true) from by rw [M1.out z HSZE.out hz1,HGR.out])
        have HF:=Lib.hid (FC.out (some ⟨b,off,none⟩) part.length cap part W2 hbw2 (by have h:=(Row.ints HRO2.out).take part.length;rw [HMG.out.take_eq] at h;exact h) rfl (by omega) (fun y hy=>HID.out y (HMG.out.mem hy)))
        have HRW:=Lib.hid (show ∀W',Below W2.heap.size W2 W'→Row W' b off 3 pre post (part++(lft++t.drop i)) from fun W' h=>by rw [←List.append_assoc,←HMG.out.eq];exact Row.below HRO2.out h)
        have HGW:=Lib.hid (show ∀W',Below W2.heap.size W2 W'→w.grownBy W' (some b) from fun W' h=>grownR_below hgr2 h)
        obtain rfl:=HMT.out
        clear HMG HGR HMT
        go_wp2_with fail
        refine HF.out.mono ?_
        rintro e W9 ⟨E9,d9,rfl,hE9,hb9⟩
        have HE9:=Lib.hid hE9
        clear hE9
        go_wp2_with fail
        go_ret3
        exact ⟨E9,d9,rfl,HE9.out,HRW.out _ hb9,HGW.out _ hb9⟩
       ·have q0:(k==0)=false:=by simpa using hk0
        by_cases hkl:k≤hi
        ·have q1:decide (k≤hi)=true:=by simpa using hkl
         have HL:=Lib.hid (LEAVE.out hi hk0 (.inr hkl) (by omega))
         clear STOP LEAVE TAKE HDR
         go_wp2_with fail
         go_roundw
         case rel=>exact ⟨d,part,lft++[x],i+1,hi,rfl,rfl,by go_num,HL.out,HRO2.out,HID.out,hgr2⟩
         case measure=>simp [intOf];omega
        ·have q1:decide (k≤hi)=false:=by simpa using hkl
         have HPX:=Lib.hid (fun (o:Obj)=>show Ints (W2.alloc o) (some ⟨b,off,none⟩) part from by have h:=(Row.ints HRO2.out).take part.length;rw [HMG.out.take_eq] at h;exact Sl.alloc h o)
         have HAL:=Lib.hid (fun (o:Obj)=>show Below W2.heap.size W2 (W2.alloc o) from (Below.refl _ _).alloc (Nat.le_refl _) _)
         go_wp2_with (at_builtin;refine wpList_append_grows _ rfl _ _ 33 rfl 3 i0 (.int .i64 0) 1 8 Tryz.underlying33 hi0 hiz his hib rfl (by decide) (some ⟨b,off,none⟩) part.length part.length (part.map (Value.int .i64)) rfl (by intro h;cases h) (by simp) (by intro a ha j u hu;injection ha with ha;subst ha;rw [Addr.add_lit];exact (cellP (HPX.out _) hu)) ⟨W2.heap.size,0,none⟩ 1 1 [.int .i64 x] rfl rfl (by intro j u hu;rw [Addr.add_lit,Nat.zero_add];cases j with | zero=>(injection hu with hu;subst hu;simp) | succ j=>(simp at hu)) (by intro u hu;simp at hu;subst hu;rfl) (by omega) (by unfold maxLen;omega) (by omega) ?_;intro v3 W3 hown3 hgn3)
         obtain ⟨A3,c3,rfl,hc3⟩:=own_form hown3
         have hb3:Below W2.heap.size W2 W3:=(HAL.out _).trans ((below_of_none hgn3).mono (by simp))
         have hgr3:=grownR_below hgr2 hb3
         have HRO3:=Lib.hid (HRO2.out.below hb3)
         have hbw3:=hbw2.trans (hb3.mono hbw2.size)
         have HI3:=Lib.hid (show Ints W3 A3 (part++[x]) from by have h:=Sl.of_own hown3;unfold Ints;rw [List.map_append];exact h)
         have HF3:=Lib.hid (FC.out A3 (part.length+1) c3 (part++[x]) W3 hbw3 HI3.out (by simp) (by omega) (fun y hy=>by
          rcases List.mem_append.1 hy with hy | hy
          ·exact HID.out y (HMG.out.mem hy)
          ·simp at hy;subst hy;exact hix))
         clear hown3 hgn3 hb3 HI3 HRO2 HPX HAL hgr2 hbw2
         cases he3:ent (part++[x]) with
         | none=>
          have HL:=Lib.hid (LEAVE.out k hk0 (.inl (by rw [he3];simp)) (by omega))
          rw [he3] at HF3
          clear he3 STOP LEAVE TAKE HDR
          go_wp2_with fail
          refine HF3.out.mono ?_
          rintro e W4 ⟨E4,d4,rfl,hE4,hb4⟩
          clear hE4 HF3
          simp only [Option.getD_none,Option.isSome_none]
          go_wp2_with fail
          go_roundw
          case rel=>exact ⟨d,part,lft++[x],i+1,k,rfl,rfl,by go_num,HL.out,HRO3.out.below hb4,HID.out,grownR_below hgr3 hb4⟩
          case measure=>simp [intOf];omega
         | some l3=>
          have HTK:=Lib.hid (TAKE.out hk0 (by rw [he3];rfl) (by omega))
          rw [he3] at HF3
          clear he3 STOP LEAVE TAKE
          go_wp2_with fail
          refine HF3.out.mono ?_
          rintro e W4 ⟨E4,d4,rfl,hE4,hb4⟩
          clear hE4 HF3
          simp only [Option.getD_some,Option.isSome_some]
          have hgr4:=grownR_below hgr3 hb4
          have HRO4:=Lib.hid (HRO3.out.below hb4)
          clear HRO3 hgr3 hbw3 hb4
          obtain rfl:=HDR.out
          clear HDR
          have hlf:lft.length=i - part.length:=by have:=HMG.out.at_;omega
          have HLN:=Lib.hid (show (lft.map (Value.int .i64)).length=Nat.min (i - part.length) (i - part.length) from by rw [List.length_map,hlf];show _=min _ _;omega)
          have HFT:=Lib.hid (show off+part.length+1+(lft.map (Value.int .i64)).length≤(pre++(part++lft++x::t.drop (i+1)).map (Value.int .i64)++post).length from by
           have:=HRO4.out.1
           simp only [List.length_append,List.length_map,List.length_cons]
           omega)
          have HPS:=Lib.hid (show 0 < (lft.map (Value.int .i64)).length→subA (some ⟨b,off,none⟩) cap (part.length+1)=some ⟨b,off+part.length+1,none⟩∧∃ad,subA (some ⟨b,off,none⟩) cap part.length=some ad∧∀j v,(lft.map (Value.int .i64))[j]?=some v→W4.cell? (ad.add j)=some v from by
           intro h0
           rw [List.length_map] at h0
           refine ⟨?_,⟨b,off+part.length,none⟩,?_,?_⟩
           ·unfold subA
            rw [if_neg (by omega),Option.map_some,Addr.add_lit]
            rfl
           ·unfold subA
            rw [if_neg (by omega),Option.map_some,Addr.add_lit]
           ·intro j v hv
            rw [Addr.add_lit]
            have h:=Row.ints HRO4.out
            have h2:=cellP h (j:=part.length+j) (u:=v) (by
             rw [List.map_append,List.map_append,List.append_assoc,List.getElem?_append_right (by simp),List.getElem?_append_left (by
              have:=(List.getElem?_eq_some_iff.1 hv).1
              simp at this ⊢
              omega)]
             simpa using hv)
            rw [Nat.add_assoc]
            exact h2)
          have hc1:=fun (W:World)=>show (Instr.sliceAt 33 (.slice (some ⟨b,off,none⟩) t.length cap) (some (.int .i64 ((part.length:Int)+1))) (some (.int .i64 ((i:Int)+1))) none).run Tryz.prog W=.ok (.slice (subA (some ⟨b,off,none⟩) cap (part.length+1)) (i - part.length) (cap - (part.length+1))) W from by
           have h:=run_cut (some ⟨b,off,none⟩) t.length cap (part.length+1) (i+1) (by omega) (by omega) W
           rw [show ((part.length+1:Nat):Int)=(part.length:Int)+1 from by omega,show ((i+1:Nat):Int)=(i:Int)+1 from by omega,show i+1 - (part.length+1)=i - part.length from by omega] at h
           exact h
          have hc2:=fun (W:World)=>run_cut (some ⟨b,off,none⟩) t.length cap part.length i hpi (by omega) W
          have HBX:=Lib.hid HRO4.out.box
          have hwp:IntKind.i64.wrap ((part.length:Int)+1)=(part.length:Int)+1:=by rw [IntKind.wrap_i64];omega
          have hwi:IntKind.i64.wrap ((i:Int)+1)=(i:Int)+1:=by rw [IntKind.wrap_i64];omega
          clear hlf
          generalize subA (some ⟨b,off,none⟩) cap (part.length+1)=DP at *
          generalize subA (some ⟨b,off,none⟩) cap part.length=SP at *
          go_wp2_with fail
          refine wp_region_held_drew (S:=fun _=>True) (by kernel_rfl) trivial (fun hHeld=>?_)
          refine anyH_take (i:=0) (v:=?_) (some 87) rfl rfl (by kernel_rfl) (by kernel_rfl) (by kernel_rfl) (fun _ _ _ h=>h) (by rfl) (by assumption) ?_ ?_
          rotate_left
          ·intro w hSw;go_simp;try (with_reducible rfl)
          try simp only [Act.put,List.setIfInBounds_toArray,List.set_cons_zero,List.set_cons_succ]
          refine anyH_take (i:=1) (v:=?_) (some 88) rfl rfl (by kernel_rfl) (by kernel_rfl) (by kernel_rfl) (fun _ _ _ h=>h) (by rfl) (by assumption) ?_ ?_
          rotate_left
          ·intro w hSw;go_simp;try (with_reducible rfl)
          try simp only [Act.put,List.setIfInBounds_toArray,List.set_cons_zero,List.set_cons_succ]
          refine tV 2 89 (.int .i64 ((part.length:Int)+1)) ?_ ?_
          ·intro w hSw;go_simp
          try simp only [Act.put,List.setIfInBounds_toArray,List.set_cons_zero,List.set_cons_succ]
          refine anyH_take (i:=3) (v:=?_) (some 90) rfl rfl (by kernel_rfl) (by kernel_rfl) (by kernel_rfl) (fun _ _ _ h=>h) (by rfl) (by assumption) ?_ ?_
          rotate_left
          ·intro w hSw;go_simp;try (with_reducible rfl)
          try simp only [Act.put,List.setIfInBounds_toArray,List.set_cons_zero,List.set_cons_succ]
          refine tV 4 91 (.int .i64 ((i:Int)+1)) ?_ ?_
          ·intro w hSw;go_simp
          try simp only [Act.put,List.setIfInBounds_toArray,List.set_cons_zero,List.set_cons_succ]
          refine tV 5 92 (.slice DP (i - part.length) (cap - (part.length+1))) ?_ ?_
          ·intro w hSw;go_simp
          try simp only [Act.put,List.setIfInBounds_toArray,List.set_cons_zero,List.set_cons_succ]
          refine anyH_take (i:=6) (v:=?_) (some 93) rfl rfl (by kernel_rfl) (by kernel_rfl) (by kernel_rfl) (fun _ _ _ h=>h) (by rfl) (by assumption) ?_ ?_
          rotate_left
          ·intro w hSw;go_simp;try (with_reducible rfl)
          try simp only [Act.put,List.setIfInBounds_toArray,List.set_cons_zero,List.set_cons_succ]
          refine anyH_take (i:=7) (v:=?_) (some 94) rfl rfl (by kernel_rfl) (by kernel_rfl) (by kernel_rfl) (fun _ _ _ h=>h) (by rfl) (by assumption) ?_ ?_
          rotate_left
          ·intro w hSw;go_simp;try (with_reducible rfl)
          try simp only [Act.put,List.setIfInBounds_toArray,List.set_cons_zero,List.set_cons_succ]
          refine anyH_take (i:=8) (v:=?_) (some 95) rfl rfl (by kernel_rfl) (by kernel_rfl) (by kernel_rfl) (fun _ _ _ h=>h) (by rfl) (by assumption) ?_ ?_
          rotate_left
          ·intro w hSw;go_simp;try (with_reducible rfl)
          try simp only [Act.put,List.setIfInBounds_toArray,List.set_cons_zero,List.set_cons_succ]
          refine tV 9 96 (.slice SP (i - part.length) (cap - part.length)) ?_ ?_
          ·intro w hSw;go_simp
          try simp only [Act.put,List.setIfInBounds_toArray,List.set_cons_zero,List.set_cons_succ]
          refine anyH_copy (i:=10) (some 97) rfl rfl (by kernel_rfl) (by rfl) (.tmp 92) (.tmp 96) 33 33 rfl 3 Tryz.underlying33 info_intSz _ _ _ _ _ _ rfl rfl b (off+part.length+1) _ 3 HBX.out (lft.map (Value.int .i64)) HLN.out HPS.out HFT.out (oneCell_ints lft) ?_
          intro W5 hbx5 hg5
          refine ⟨trivial,?_⟩
          try simp only [Act.put,List.setIfInBounds_toArray,List.set_cons_zero,List.set_cons_succ]
          refine wpAnyH_done (by kernel_rfl) ?_ _
          all_goals
           have f5:=hbx5.free (off+part.length)
           obtain ⟨v5,c5⟩:∃v,W5.cell? ⟨b,off+part.length,none⟩=some v:=by
            have hlt:off+part.length < (splice (pre++(part++lft++x::t.drop (i+1)).map (Value.int .i64)++post) (off+part.length+1) (lft.map (Value.int .i64))).length:=by
             rw [length_splice _ _ _ HFT.out]
             have:=HFT.out
             omega
            exact ⟨_,hbx5.cell (List.getElem?_eq_getElem hlt)⟩
           have HR5:=Lib.hid (show Row (W5.setCell ⟨b,off+part.length,none⟩ (.int .i64 x)) b off 3 pre post (part++[x]++lft++t.drop (i+1)) from Row.of_box HRO4.out.1 (by
            have h:=hbx5.set (off+part.length) (.int .i64 x)
            rw [moved HRO4.out.1] at h
            exact h))
           have HG5:=Lib.hid (show w.grownBy (W5.setCell ⟨b,off+part.length,none⟩ (.int .i64 x)) (some b) from grownR_trans (grownR_trans (grownR_drew hgr4) hg5) (grown_set _ _ _))
           have HID5:=Lib.hid (show ∀y ∈ part++[x]++lft++t.drop (i+1),iok y from fun y hy=>HID.out y (by simp only [List.mem_append,List.mem_cons,List.not_mem_nil,or_false] at hy ⊢;rcases hy with ((h | h) | h) | h <;> simp [h]))
           clear hbx5 hg5 hgr4 HRO4 HBX
           go_wp2_with fail
           go_roundw
           case rel=>exact ⟨_,part++[x],lft,i+1,hi,by simp,rfl,by go_num,HTK.out,HR5.out,HID5.out,HG5.out⟩
           case measure=>simp [intOf];omega
      ·have d2:decide (hi < tp)=false:=by simpa using hht
       have HGR:=Lib.hid (HMG.out.fin (.inr fun x=>by have:=CT.out x;omega))
       have HMT:=Lib.hid (show mt=(part,lft++t.drop i,true) from by rw [M1.out z HSZE.out hz1,HGR.out])
       have HF:=Lib.hid (FC.out (some ⟨b,off,none⟩) part.length cap part wr hbw (by have h:=(Row.ints HRO.out).take part.length;rw [HMG.out.take_eq] at h;exact h) rfl (by omega) (fun y hy=>HID.out y (HMG.out.mem hy)))
       have HRW:=Lib.hid (show ∀W',Below wr.heap.size wr W'→Row W' b off 3 pre post (part++(lft++t.drop i)) from fun W' h=>by rw [←List.append_assoc,←HMG.out.eq];exact Row.below HRO.out h)
       have HGW:=Lib.hid (show ∀W',Below wr.heap.size wr W'→w.grownBy W' (some b) from fun W' h=>grownR_below hgr h)
       obtain rfl:=HMT.out
       clear HMG HGR HMT
       go_wp2_with fail
       refine HF.out.mono ?_
       rintro e W9 ⟨E9,d9,rfl,hE9,hb9⟩
       have HE9:=Lib.hid hE9
       clear hE9
       go_wp2_with fail
       go_ret3
       exact ⟨E9,d9,rfl,HE9.out,HRW.out _ hb9,HGW.out _ hb9⟩
     ·have d1:decide ((i:Int) < (t.length:Int))=false:=by simpa using hil2
      have HGR:=Lib.hid (HMG.out.fin (.inl (by omega)))
      have HMT:=Lib.hid (show mt=(part,lft++t.drop i,true) from by rw [M1.out z HSZE.out hz1,HGR.out])
      have HF:=Lib.hid (FC.out (some ⟨b,off,none⟩) part.length cap part wr hbw (by have h:=(Row.ints HRO.out).take part.length;rw [HMG.out.take_eq] at h;exact h) rfl (by omega) (fun y hy=>HID.out y (HMG.out.mem hy)))
      have HRW:=Lib.hid (show ∀W',Below wr.heap.size wr W'→Row W' b off 3 pre post (part++(lft++t.drop i)) from fun W' h=>by rw [←List.append_assoc,←HMG.out.eq];exact Row.below HRO.out h)
      have HGW:=Lib.hid (show ∀W',Below wr.heap.size wr W'→w.grownBy W' (some b) from fun W' h=>grownR_below hgr h)
      obtain rfl:=HMT.out
      clear HMG HGR HMT
      go_wp2_with fail
      refine HF.out.mono ?_
      rintro e W9 ⟨E9,d9,rfl,hE9,hb9⟩
      have HE9:=Lib.hid hE9
      clear hE9
      go_wp2_with fail
      go_ret3
      exact ⟨E9,d9,rfl,HE9.out,HRW.out _ hb9,HGW.out _ hb9⟩
  ·obtain rfl:z=0:=by omega
   have HM:=Lib.hid (M0.out HSZ.out)
   have c0:wr.cell? ⟨b,off,none⟩=some (.int .i64 t[0]):=by
    have h:=HRr.out.cell (i:=0) (List.getElem?_eq_getElem hpos)
    simpa using h
   have HI:=Lib.hid (IC.out t[0] wr hbw)
   have e1:(t.take 1).length=1:=by rw [List.length_take];omega
   have e2:Mtc.ofPart ent imp (t.take 1) false=imp t[0]:=by
    unfold Mtc.ofPart
    rw [if_neg (by simp)]
    congr 1
    cases t with
    | nil=>simp at hpos
    | cons y r=>rfl
   have E1:=Lib.hid e1;have E2:=Lib.hid e2
   clear e1 e2
   obtain rfl:=HM.out
   generalize t[0]=x at *
   go_wp2_with fail
   refine HI.out.mono ?_
   rintro e W9 ⟨E9,d9,rfl,hE9,hb9⟩
   have HE9:=Lib.hid hE9
   clear hE9
   go_wp2_with fail
   go_ret3
   refine ⟨E9,d9,?_,?_,?_,grownR_below (grownR_below (grownR_refl w _) hbel) hb9⟩
   ·simp only [E1.out,E2.out];rfl
   ·simp only [E2.out];exact HE9.out
   ·simp only [List.take_append_drop];exact HRr.out.below hb9
end Go.Proofs.YtkhmjidaeliccaaGreatDoor
namespace Go.Proofs.YtkhmjidaeliccaaGreatDoor
open Go.RowKit
def RetRow (R:List Int→Prop) (b off:Nat) (e:TypeId) (pre post:List Value) (w:World) (x:Ending) (w':World):Prop:=
 x=.returned (.tuple #[])∧∃d',R d'∧Row w' b off e pre post d'∧w.grownBy w' (some b)
def SwR (d:List Int) (p q k:Nat) (d':List Int):Prop:=
 d'.length=d.length∧∀t,d'[t]?=if p≤t∧t < p+k then d[t+(q - p)]? else if q≤t∧t < q+k then d[t - (q - p)]? else d[t]?
theorem SwR.step {d d1:List Int} {p q k m:Nat} {x y:Int} (h:SwR d p q k d1) (hk:k < m) (hpq:p+m≤q) (hx:d1[p+k]?=some x) (hy:d1[q+k]?=some y) :
  SwR d p q (k+1) (Srt.swp d1 (p+k) (q+k) x y):=by
 refine ⟨(Srt.swp_len _ _ _ _ _).trans h.1,fun t=>?_⟩
 rw [Srt.swp_get d1 (p+k) (q+k) t x y hx hy (by omega),h.2,h.2,h.2]
 (repeat' split) <;> first | rfl | omega | (congr 1;omega)
theorem get_of_lt {d:List Int} {i:Nat} (h:i < d.length):∃x,d[i]?=some x:=⟨d[i],List.getElem?_eq_getElem h⟩
theorem swapRange_any (b off n c p q m:Nat) (e:TypeId) (g:Value) (d:List Int) (pre post:List Value) (w:World) (hR:Row w b off e pre post d) (hn:d.length=n)
  (hpq:p+m≤q) (hq:q+m≤n) (hbig:n≤1099511627776) :
  Calls Tryz.prog 210 #[.slice (some ⟨b,off,none⟩) n c,.int .i64 p,.int .i64 q,.int .i64 m,g] w (RetRow (SwR d p q m) b off e pre post w):=by
 subst hn
 go_enter Tryz.func210,Tryz.ntmps210
 go_wp2
 go_loopw [10] (fun i wr=>∃(k:Nat) (d1:List Int),k≤m∧i=.int .i64 k∧SwR d p q k d1∧Row wr b off e pre post d1∧w.grownBy wr (some b)) (fun i _=>m - (intOf i).toNat)
 case atStart=>
  refine ⟨0,d,Nat.zero_le _,rfl,⟨rfl,fun t=>?_⟩,hR,grownR_refl _ _⟩
  rw [if_neg (by omega),if_neg (by omega)]
 case round=>
  obtain ⟨k,d1,hk,rfl,hS,hR1,hg⟩:=hrel
  by_cases hlt:k < m
  ·obtain ⟨x,hx⟩:=get_of_lt (d:=d1) (i:=p+k) (by rw [hS.1];omega)
   obtain ⟨y,hy⟩:=get_of_lt (d:=d1) (i:=q+k) (by rw [hS.1];omega)
   have cx:=hR1.cell hx
   have cy:=hR1.cell hy
   have fx:=hR1.frozen (off+(p+k))
   have fy:=hR1.frozen (off+(q+k))
   have hne:¬(p+k=q+k):=by omega
   have HX:=Lib.hid hx;have HY:=Lib.hid hy;clear hx hy
   go_wp2
   go_region
   go_wp2
   go_roundw
   case rel=>
    refine ⟨k+1,Srt.swp d1 (p+k) (q+k) x y,by omega,by go_num,hS.step hlt hpq HX.out HY.out,?_,?_⟩
    ·exact (Row.set (hR1.set (by rw [hS.1];omega) y) (by rw [List.length_set,hS.1];omega) x).drew
    ·exact grownR_drew (grown_row (grown_row hg _ _) _ _)
   case measure=>simp [intOf];omega
  ·go_wp2
   go_end0
   obtain rfl:k=m:=by omega
   exact ⟨rfl,d1,hS,hR1,hg⟩
theorem rot_gt {d0 d1 d2:List Int} {a m b i j:Nat} (him:i≤m) (hij:j < i)
  (h:∀d',Srt.Rot d1 d' (m - i) m (m+j)→Srt.Rot d0 d' a m b) (hS:SwR d1 (m - i) m j d2):∀d',Srt.Rot d2 d' (m - (i - j)) m (m+j)→Srt.Rot d0 d' a m b:=by
 intro d' hr
 apply h
 refine ⟨hr.1.trans hS.1,fun t=>?_⟩
 rw [hr.2 t]
 simp only [hS.2]
 (repeat' split) <;> first | rfl | omega | (congr 1;omega)
theorem rot_lt {d0 d1 d2:List Int} {a m b i j:Nat} (him:i≤m) (hij:i < j)
  (h:∀d',Srt.Rot d1 d' (m - i) m (m+j)→Srt.Rot d0 d' a m b) (hS:SwR d1 (m - i) (m+j - i) i d2):∀d',Srt.Rot d2 d' (m - i) m (m+(j - i))→Srt.Rot d0 d' a m b:=by
 intro d' hr
 apply h
 refine ⟨hr.1.trans hS.1,fun t=>?_⟩
 rw [hr.2 t]
 simp only [hS.2]
 (repeat' split) <;> first | rfl | omega | (congr 1;omega)
theorem rot_eq {d0 d1 d2:List Int} {a m b i:Nat} (him:i≤m)
  (h:∀d',Srt.Rot d1 d' (m - i) m (m+i)→Srt.Rot d0 d' a m b) (hS:SwR d1 (m - i) m i d2):Srt.Rot d0 d2 a m b:=by
 apply h
 refine ⟨hS.1,fun t=>?_⟩
 rw [hS.2]
 (repeat' split) <;> first | rfl | omega | (congr 1;omega)
theorem rotate_any (b off n c x m y:Nat) (e:TypeId) (g:Value) (d:List Int) (pre post:List Value) (w:World) (hR:Row w b off e pre post d) (hn:d.length=n)
  (hxm:x < m) (hmy:m < y) (hy:y≤n) (hbig:n≤1099511627776) :
  Calls Tryz.prog 204 #[.slice (some ⟨b,off,none⟩) n c,.int .i64 x,.int .i64 m,.int .i64 y,g] w (RetRow (fun d'=>Srt.Rot d d' x m y) b off e pre post w):=by
 subst hn
 go_enter Tryz.func204,Tryz.ntmps204
 go_wp2
 go_loopw [10,11] (fun u v wr=>∃(i j:Nat) (d1:List Int),0 < i∧0 < j∧i≤m∧m+j≤d.length∧u=.int .i64 i∧v=.int .i64 j∧d1.length=d.length∧(∀d',Srt.Rot d1 d' (m - i) m (m+j)→Srt.Rot d d' x m y)∧
   Row wr b off e pre post d1∧w.grownBy wr (some b)) (fun u v _=>(intOf u).toNat+(intOf v).toNat)
 case atStart=>
  refine ⟨m - x,y - m,d,by omega,by omega,by omega,by omega,by go_num,by go_num,rfl,fun d' h=>?_,hR,grownR_refl _ _⟩
  rw [show m - (m - x)=x by omega,show m+(y - m)=y by omega] at h
  exact h
 case round=>
  obtain ⟨i,j,d1,hi,hj,him,hjn,rfl,rfl,hl,hrot,hR1,hg⟩:=hrel
  have HR:=Lib.hid hrot;have HL:=Lib.hid hl;clear hrot hl
  by_cases h1:j < i
  ·have e1:((i:Int) != (j:Int))=true:=by simp;omega
   have C:=Lib.hid (swapRange_any b off d.length c (m - i) m j e g d1 pre post wr hR1 HL.out (by omega) (by omega) hbig)
   have hz:((m:Int) - (i:Int))=((m - i:Nat):Int):=by omega
   rw [←hz] at C;clear hz
   go_wp2_with fail
   refine C.out.mono ?_
   rintro e w1 ⟨rfl,d2,hS,hR2,hg2⟩
   go_wp2_with fail
   go_roundw
   case rel=>exact ⟨i - j,j,d2,by omega,by omega,by omega,by omega,by go_num,rfl,hS.1.trans HL.out,rot_gt him h1 HR.out hS,hR2,grownR_trans hg hg2⟩
   case measure=>simp [intOf];omega
  ·by_cases h2:i < j
   ·have e1:((i:Int) != (j:Int))=true:=by simp;omega
    have C:=Lib.hid (swapRange_any b off d.length c (m - i) (m+j - i) i e g d1 pre post wr hR1 HL.out (by omega) (by omega) hbig)
    have hz:((m:Int) - (i:Int))=((m - i:Nat):Int):=by omega
    have hz':((m:Int)+(j:Int) - (i:Int))=((m+j - i:Nat):Int):=by omega
    rw [←hz,←hz'] at C;clear hz hz'
    go_wp2_with fail
    refine C.out.mono ?_
    rintro e w1 ⟨rfl,d2,hS,hR2,hg2⟩
    go_wp2_with fail
    go_roundw
    case rel=>exact ⟨i,j - i,d2,by omega,by omega,by omega,by omega,rfl,by go_num,hS.1.trans HL.out,rot_lt him h2 HR.out hS,hR2,grownR_trans hg hg2⟩
    case measure=>simp [intOf];omega
   ·obtain rfl:i=j:=by omega
    have e1:((i:Int) != (i:Int))=false:=by simp
    have C:=Lib.hid (swapRange_any b off d.length c (m - i) m i e g d1 pre post wr hR1 HL.out (by omega) (by omega) hbig)
    have hz:((m:Int) - (i:Int))=((m - i:Nat):Int):=by omega
    rw [←hz] at C;clear hz
    go_wp2_with fail
    refine C.out.mono ?_
    rintro e w1 ⟨rfl,d2,hS,hR2,hg2⟩
    go_wp2_with fail
    go_end0
    exact ⟨rfl,d2,rot_eq him HR.out hS,hR2,grownR_trans hg hg2⟩
end Go.Proofs.YtkhmjidaeliccaaGreatDoor
namespace Go.Proofs.YtkhmjidaeliccaaGreatDoor
open Go.RowKit
def RetCmpS (p:Prop) (w:World) (x:Ending) (w':World):Prop:=∃c:Int,x=.returned (.int .i64 c)∧(c < 0 ↔ p)∧Below w.heap.size w w'
def Cmps (b B:Nat) (w0:World) (key:Int→Int):Prop:=
 ∀W,w0.grownBy W (some b)→∀x y:Int,Calls Tryz.prog 123 #[.int .i64 x,.int .i64 y,.pointer (some ⟨B,0,none⟩)] W (RetCmpS (key x < key y) W)
theorem Cmps.later {b B:Nat} {w0 w1:World} {key:Int→Int} (h:Cmps b B w0 key) (hg:w0.grownBy w1 (some b)):Cmps b B w1 key:=fun W hW=>h W (grownR_trans hg hW)
theorem insertion_any (b B off n c p q:Nat) (e:TypeId) (key:Int→Int) (d:List Int) (pre post:List Value) (w:World) (hR:Row w b off e pre post d) (hn:d.length=n)
  (hpq:p≤q) (hq:q≤n) (hbig:n≤1099511627776) (hC:Cmps b B w key) :
  Calls Tryz.prog 191 #[.slice (some ⟨b,off,none⟩) n c,.int .i64 p,.int .i64 q,.func (.func 123) #[] #[.pointer (some ⟨B,0,none⟩)]] w
   (RetRow (fun d'=>Srt.Done key d d' p q) b off e pre post w):=by
 subst hn
 have HC:=Lib.hid hC;clear hC
 go_enter Tryz.func191,Tryz.ntmps191
 go_wp2
 go_loopw [8] (fun i wr=>∃(k:Nat) (d1:List Int),p+1≤k∧(k≤q∨k=p+1)∧i=.int .i64 k∧Srt.Same d d1 p q∧Srt.St key d d1∧Srt.SortedOn key d1 p k∧Row wr b off e pre post d1∧w.grownBy wr (some b)) (fun i _=>q - (intOf i).toNat)
 case atStart=>exact ⟨p+1,d,Nat.le_refl _,.inr rfl,by go_num,Srt.Same.refl _ _ _,Srt.St.refl _,Srt.SortedOn.short (Nat.le_refl _),hR,grownR_refl _ _⟩
 case round=>
  obtain ⟨k,d1,hk1,hk2,rfl,hsame,hst,hso,hR1,hg⟩:=hrel
  have HA:=Lib.hid hsame;have HT:=Lib.hid hst;have HO:=Lib.hid hso
  clear hsame hst hso
  by_cases hlt:k < q
  ·obtain ⟨wo,rfl⟩:∃wo:World,wo=wr:=⟨_,rfl⟩
   go_wp2
   go_loopw [9] (fun i wr=>∃(j:Nat) (d2:List Int),p≤j∧j≤k∧i=.int .i64 j∧Srt.Same d d2 p q∧Srt.St key d d2∧Srt.Ins key d2 p k j∧Row wr b off e pre post d2∧w.grownBy wr (some b)) (fun i _=>(intOf i).toNat)
   case atStart=>exact ⟨k,d1,by omega,Nat.le_refl _,rfl,HA.out,HT.out,Srt.Ins.start HO.out,hR1,hg⟩
   case round=>
    obtain ⟨j,d2,hj1,hj2,rfl,hsame,hst,hins,hR2,hg2⟩:=hrel
    have HA2:=Lib.hid hsame;have HT2:=Lib.hid hst;have HI:=Lib.hid hins
    clear hsame hst hins
    by_cases hpj:p < j
    ·have hjn:j < d.length:=by omega
     obtain ⟨x,hx⟩:=get_of_lt (d:=d2) (i:=j - 1) (by rw [HA2.out.1];omega)
     obtain ⟨y,hy⟩:=get_of_lt (d:=d2) (i:=j) (by rw [HA2.out.1];omega)
     have cx:=hR2.cell hx
     have cy:=hR2.cell hy
     have HX:=Lib.hid hx;have HY:=Lib.hid hy
     have C:=Lib.hid (fun W hW=>HC.out W hW y x)
     clear hx hy
     have i0:decide (p < j)=true:=by simp;omega
     have i1:IntKind.i64.wrap ((j:Int) - 1)=(j:Int) - 1:=IntWalk.i64_in _ (by omega)
     have i2:(0:Int)≤(j:Int) - 1:=by omega
     have i2':(1:Int)≤(j:Int):=by omega
     have i2'':1≤j:=by omega
     have i3:((j:Int) - 1).toNat=j - 1:=by omega
     have i4:(j:Int) - 1 < (d.length:Int):=by omega
     go_wp2
     refine wp_region_still_tail 14 (by kernel_rfl) (by kernel_rfl) ?_
     simp only [List.take_succ_cons,List.take_zero,List.drop_succ_cons,List.drop_zero]
     change wpStill _ _ wr.drew _ _ _
     repeat still_step
     refine wpStill_nil ?_
     change wpList _ _ _ _ _ wr.drew
     go_wp2_with fail
     refine (C.out _ (grownR_drew hg2)).mono ?_
     rintro e w3 ⟨cc,rfl,hcc,hb3⟩
     have hR3:=(hR2.drew).below hb3
     have hg3:=grownR_below (grownR_drew hg2) hb3
     have cx3:=hR3.cell HX.out
     have cy3:=hR3.cell HY.out
     have fx3:=hR3.frozen (off+(j - 1))
     have fy3:=hR3.frozen (off+j)
     clear hR2 hg2 hb3 cx cy
     by_cases hkey:key y < key x
     ·have hneg:cc < 0:=hcc.2 hkey
      clear hcc
      have hne:¬(j - 1=j):=by omega
      go_wp2
      go_region
      go_wp2
      go_roundw
      case rel=>
       refine ⟨j - 1,Srt.swp d2 (j - 1) j x y,by omega,by omega,by go_num,HA2.out.trans (Srt.swp_same HX.out HY.out (by omega) (by omega) (by omega) (by omega) (by omega)),HT2.out.trans ?_,?_,?_,?_⟩
       ·have:=Srt.swp_done (key:=key) (d:=d2) (j:=j - 1) HX.out (by rw [show j - 1+1=j by omega];exact HY.out) hkey
        rw [show j - 1+1=j by omega] at this;exact this
       ·have:=Srt.Ins.step (key:=key) (d:=d2) (a:=p) (i:=k) (j:=j - 1) (x:=x) (y:=y) (by rw [show j - 1+1=j by omega];exact HI.out) (by omega) (by omega) HX.out (by rw [show j - 1+1=j by omega];exact HY.out) hkey
        rw [show j - 1+1=j by omega] at this;exact this
       ·rw [Srt.swp,List.set_comm _ _ (by omega)]
        exact (Row.set (hR3.set (i:=j) (by rw [HA2.out.1];omega) x) (i:=j - 1) (by rw [List.length_set,HA2.out.1];omega) y).drew
       ·exact grownR_drew (grown_row (grown_row hg3 _ _) _ _)
      case measure=>simp [intOf];omega
     ·have hneg:¬cc < 0:=fun h=>hkey (hcc.1 h)
      clear hcc
      go_wp2
      go_roundw
      case rel=>
       refine ⟨k+1,d2,by omega,.inl (by omega),by go_num,HA2.out,HT2.out,HI.out.stop hj1 hj2 (.inr ?_),hR3,hg3⟩
       rw [Srt.kf_some HX.out,Srt.kf_some HY.out];omega
      case measure=>simp [intOf];omega
    ·have i0:decide (p < j)=false:=by simp;omega
     go_wp2
     go_quiet (fail)
     go_wp2
     go_roundw
     case rel=>exact ⟨k+1,d2,by omega,.inl (by omega),by go_num,HA2.out,HT2.out,HI.out.stop hj1 hj2 (.inl (by omega)),hR2.drewN _,grownR_drewN hg2 _⟩
     case measure=>simp [intOf];omega
  ·go_wp2
   go_end0
   refine ⟨rfl,d1,⟨HA.out,HT.out,?_⟩,hR1,hg⟩
   by_cases hkq:q≤k
   ·exact HO.out.sub (Nat.le_refl _) hkq
   ·omega
end Go.Proofs.YtkhmjidaeliccaaGreatDoor
