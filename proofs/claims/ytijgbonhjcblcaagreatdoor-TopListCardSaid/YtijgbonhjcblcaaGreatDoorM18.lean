/- Texts that are merged into one file: ExpB, SkWgt, Search. -/
import Derived.Test.YtijgbonhjcblcaaGreatDoorM01
import Derived.Test.YtijgbonhjcblcaaGreatDoorM04
import Derived.Test.YtijgbonhjcblcaaGreatDoorM16
import Derived.Test.YtijgbonhjcblcaaGreatDoorM17
import Derived.Deep.Cut
import Derived.Test.YtijgbonhjcblcaaGreatDoorProg
import Derived.Shelf.Abstract
set_option maxRecDepth 100000
set_option maxHeartbeats 51200000
namespace Go.Proofs.YtijgbonhjcblcaaGreatDoor
open Go.RowKit Go.Maps Go.WideMaps
theorem below_of_grown {a w:World} {U B:Nat} (h:a.grownBy w (some U)) (hB:B≤U) (hB2:B≤a.heap.size):Below B a w:=
 ⟨h.os,h.tape,h.output,h.size,fun k hk=>h.block k (by omega) (fun e=>by injection e with e;omega)⟩
theorem flat_take_le (vs:List (List Int)) (i:Nat):(vs.take i).flatten.length≤vs.flatten.length:=by
 conv=>rhs;rw [←List.take_append_drop i vs,List.flatten_append,List.length_append]
 omega
theorem flat_take_succ {vs:List (List Int)} {i:Nat} (hi:i < vs.length):(vs.take (i+1)).flatten=(vs.take i).flatten++vs[i]:=by
 rw [List.take_succ_eq_append_getElem hi,List.flatten_append,List.flatten_singleton]
structure XLoop (A0:Option Addr) (n0 k0:Nat) (A1:Option Addr) (n1 k1:Nat) (A2:Option Addr) (n2 k2:Nat) (ms:List Mp) (compat:Bool) (s:Nat) (Q:Int→Prop) (fl:List Int) (w w1:World) (n:Nat) (f:Int→Option Value) (B:Option Addr) (k:Nat) (W:World) (n':Nat) (f':Int→Option Value):Prop where
 own:W.ownsRow w1.heap.size 3 1 (.slice B fl.length k) fl.length (fl.map (Value.int .i64))
 st:XM A0 n0 k0 A1 n1 k1 A2 n2 k2 ms compat s W n' f'
 gr:w1.grownBy W (some (s+2))
 pot:n'+unmarked (uM ms) (mkF f')≤n+unmarked (uM ms) (mkF f)
 fr:∀x E' m d,f' x=some (.slice E' m d)→f x=some (.slice E' m d)∨m=0∨∀b o,E'=some ⟨b,o,none⟩→w.heap.size≤b
 mks:∀x,f' x≠none→f x≠none∨Q x
 ap:Apart f' B
section
variable {A0:Option Addr} {n0 k0:Nat} {A1:Option Addr} {n1 k1:Nat} {A2:Option Addr} {n2 k2:Nat} {ms:List Mp} {compat:Bool} {s:Nat} {Q:Int→Prop} {e:Int} {fl l:List Int} {w w1:World} {n:Nat} {f:Int→Option Value} {B:Option Addr} {k:Nat} {W:World} {n':Nat} {f':Int→Option Value}
theorem XLoop.lt (h:XLoop A0 n0 k0 A1 n1 k1 A2 n2 k2 ms compat s Q fl w w1 n f B k W n' f'):w1.heap.size≤W.heap.size:=h.gr.size
theorem XLoop.call (h:XLoop A0 n0 k0 A1 n1 k1 A2 n2 k2 ms compat s Q fl w w1 n f B k W n' f') (hw:w.heap.size≤w1.heap.size) (hs:s+4 < w1.heap.size) (he:∀x,x=e∨Path (onM ms compat) e x→Q x) {E:Option Addr} {W2:World} {n2':Nat} {f2:Int→Option Value}
  (p:XRet A0 n0 k0 A1 n1 k1 A2 n2 k2 ms compat s e l W n' f' E W2 n2' f2):XLoop A0 n0 k0 A1 n1 k1 A2 n2 k2 ms compat s Q fl w w1 n f B k W2 n2' f2:=by
 have hbl:∀g o,B=some ⟨g,o,none⟩→w1.heap.size≤g∧g < W.heap.size:=by
  intro g o hB
  subst hB
  rcases h.own.2 with ⟨hv,_⟩ | ⟨g',cap,cur,hv,h1,h2,_⟩
  ·cases hv
  ·injection hv with hv
   injection hv with hv
   injection hv with hv
   subst hv
   exact ⟨h1,(Array.getElem?_eq_some_iff.1 h2).1⟩
 refine ⟨h.own.kept p.gr ?_,p.st,grownR_trans h.gr p.gr,Nat.le_trans p.pot h.pot,fun x E' m d e1=>?_,fun x e1=>?_,?_⟩
 ·cases B with
  | none=>exact .inl rfl
  | some a=>
   right
   rcases h.own.2 with ⟨hv,_⟩ | ⟨g',cap,cur,hv,h1,h2,_⟩
   ·cases hv
   ·injection hv with hv
    rw [hv]
    simp only [Value.ownBlock]
    intro e2
    injection e2 with e2
    omega
 ·rcases p.fr x E' m d e1 with e2 | e2 | e2
  ·exact h.fr x E' m d e2
  ·exact .inr (.inl e2)
  ·exact .inr (.inr fun b o hb=>by have:=e2 b o hb;have:=h.lt;omega)
 ·rcases p.mks x e1 with e2 | e2 | e2
  ·exact h.mks x e2
  ·exact .inr (he x (.inl e2))
  ·exact .inr (he x (.inr e2))
 ·intro x E' m d b o b' o' e1 hE hB
  rcases p.fr x E' m d e1 with e2 | e2 | e2
  ·exact h.ap x E' m d b o b' o' e2 hE hB
  ·exact .inl e2
  ·right
   have:=e2 b o hE
   have:=hbl b' o' hB
   omega
theorem XLoop.app (h:XLoop A0 n0 k0 A1 n1 k1 A2 n2 k2 ms compat s Q fl w w1 n f B k W n' f') (hs:s+4 < w1.heap.size) {B':Option Addr} {k':Nat} {W':World} {zs:List Int}
  (ho:W'.ownsRow w1.heap.size 3 1 (.slice B' (fl.length+zs.length) k') (fl.length+zs.length) (fl.map (Value.int .i64)++zs.map (Value.int .i64))) (hb:Below w1.heap.size W W') (hg:W.grownBy W' (Value.ownBlock (.slice B fl.length k))) (hB:B'=B∨B'=some ⟨W.heap.size,0,none⟩) :
  XLoop A0 n0 k0 A1 n1 k1 A2 n2 k2 ms compat s Q (fl++zs) w w1 n f B' k' W' n' f':=by
 refine ⟨by rw [List.length_append,List.map_append];exact ho,h.st.app h.own h.ap hg hb hs,grown_belowB h.gr hb (Nat.le_refl _),h.pot,h.fr,h.mks,?_⟩
 rcases hB with rfl | rfl
 ·exact h.ap
 ·exact h.st.apart_new
end
theorem expand_found (A0:Option Addr) (n0 k0:Nat) (A1:Option Addr) (k1:Nat) (A2:Option Addr) (n2 k2:Nat) (s:Nat) (ms:List Mp) (compat:Bool) (w0:World) (_hs0:s=w0.heap.size) (_hA:Mps w0 A1 ms) (_hst:StF ms) (_hco:CodesOk ms) (_hbig:ms.length≤1048576) (c:Int) (l:List Int) (hF:Full (onM ms compat) c l) (hc:iok c)
  (w:World) (n:Nat) (f:Int→Option Value) (hms:XM A0 n0 k0 A1 ms.length k1 A2 n2 k2 ms compat s w n f) (_hbel:Below s w0 w) (_hn:n+unmarked (uM ms) (mkF f)≤1000000000) {v:Value} (hfc:f c=some v) :
  Calls Tryz.prog 117 #[.int .i64 c,.pointer (some ⟨s+3,0,none⟩),.pointer (some ⟨s,0,none⟩),.pointer (some ⟨s+1,0,none⟩),.pointer (some ⟨s+4,0,none⟩)] w
   (XRetE A0 n0 k0 A1 ms.length k1 A2 n2 k2 ms compat s c l w n f):=by
 obtain ⟨E,d,l',rfl,h2,h3,h4⟩:=hms.fd c v hfc
 obtain rfl:=h3.func hF
 have qm:w.cell? ⟨s+3,0,none⟩=some (.map (some (s+2))):=hms.bM.cell rfl
 have HM:=Lib.hid hms
 have HE:=Lib.hid h4
 clear hms _hA _hst _hco h3 hF h4 _hs0
 go_enter Tryz.func117,Tryz.ntmps117
 go_wp2_with (at_lookup;refine wpList_lookOk rfl _ _ 163 rfl HM.out.mp law_int Tryz.underlying163 (zero_intsM _) rfl rfl hc (key_int hc) ?_;rw [hfc];simp only [Option.getD_some,Option.isSome_some])
 go_ret
 exact ⟨E,d,n,f,rfl,h2,HE.out,HM.out,grownR_refl w _,Nat.le_refl _,fun x E' m d e=>.inl e,fun x e=>.inl e⟩
theorem expand_leaf (A0:Option Addr) (n0 k0:Nat) (A1:Option Addr) (k1:Nat) (A2:Option Addr) (n2 k2:Nat) (s:Nat) (ms:List Mp) (compat:Bool) (w0:World) (hs0:s=w0.heap.size) (hA:Mps w0 A1 ms) (hst:StF ms) (_hco:CodesOk ms) (hbig:ms.length≤1048576) (c:Int) (hR:onM ms compat c=none) (hc:iok c)
  (w:World) (n:Nat) (f:Int→Option Value) (hms:XM A0 n0 k0 A1 ms.length k1 A2 n2 k2 ms compat s w n f) (hbel:Below s w0 w) (_hn:n+unmarked (uM ms) (mkF f)≤1000000000) (hfc:f c=none) :
  Calls Tryz.prog 117 #[.int .i64 c,.pointer (some ⟨s+3,0,none⟩),.pointer (some ⟨s,0,none⟩),.pointer (some ⟨s+1,0,none⟩),.pointer (some ⟨s+4,0,none⟩)] w
   (XRetE A0 n0 k0 A1 ms.length k1 A2 n2 k2 ms compat s c [c] w n f):=by
 have ON:=Lib.hid (fun W (hb:Below s w0 W)=>once_any A0 n0 k0 A1 ms.length k1 A2 n2 k2 ms c compat W (hA.below (hs0 ▸ hb)) rfl hbig hst)
 have q0:w.cell? ⟨s,0,none⟩=some (.slice A0 n0 k0):=hms.bN.cell rfl
 have q1:w.cell? ⟨s,1,none⟩=some (.slice A1 ms.length k1):=hms.bN.cell rfl
 have q2:w.cell? ⟨s,2,none⟩=some (.slice A2 n2 k2):=hms.bN.cell rfl
 have qb:w.cell? ⟨s+1,0,none⟩=some (.bool compat):=hms.bB.cell rfl
 have qm:w.cell? ⟨s+3,0,none⟩=some (.map (some (s+2))):=hms.bM.cell rfl
 have HM:=Lib.hid hms
 rw [hR] at ON
 clear hms hA hst _hco hR hs0
 go_enter Tryz.func117,Tryz.ntmps117
 go_wp2_with (at_lookup;refine wpList_lookOk rfl _ _ 163 rfl HM.out.mp law_int Tryz.underlying163 (zero_intsM _) rfl rfl hc (key_int hc) ?_;rw [hfc];simp only [Option.getD_none,Option.isSome_none])
 with_reducible refine (ON.out _ hbel).mono ?_
 rintro e w1 ⟨E,d,rfl,hd,hE,hb1⟩
 simp only [Option.getD_none,Option.isSome_none]
 have HM1:=Lib.hid (HM.out.below hb1)
 clear ON hE hd
 go_wp2_with fail
 go_ret
 have hb2:=hb1.alloc hb1.size (.cells #[.int .i64 c] 3)
 exact ⟨some ⟨w1.heap.size,0,none⟩,1,n,f,rfl,Nat.le_refl _,Ints_new w1 [c] _ rfl,HM1.out.below ((Below.refl _ _).alloc (Nat.le_refl _) _),grownR_below (grownR_refl w _) hb2,Nat.le_refl _,fun x E' m d e=>.inl e,fun x e=>.inl e⟩
theorem expand_node (A0:Option Addr) (n0 k0:Nat) (A1:Option Addr) (k1:Nat) (A2:Option Addr) (n2 k2:Nat) (s:Nat) (ms:List Mp) (compat:Bool) (w0:World) (hs0:s=w0.heap.size) (hA:Mps w0 A1 ms) (hst:StF ms) (hco:CodesOk ms) (hbig:ms.length≤1048576) (c:Int) (to:List Int) (vs:List (List Int)) (hR:onM ms compat c=some to) (hlen:vs.length=to.length) (hk:∀i,(hi:i < to.length)→(hv:i < vs.length)→Full (onM ms compat) to[i] vs[i])
  (ih:∀i,(hi:i < to.length)→(hv:i < vs.length)→XOk A0 n0 k0 A1 ms.length k1 A2 n2 k2 ms compat s w0 to[i] vs[i]) (hc:iok c) (hl:vs.flatten.length≤4096)
  (w:World) (n:Nat) (f:Int→Option Value) (hms:XM A0 n0 k0 A1 ms.length k1 A2 n2 k2 ms compat s w n f) (hbel:Below s w0 w) (hn:n+unmarked (uM ms) (mkF f)≤1000000000) (hfc:f c=none) :
  Calls Tryz.prog 117 #[.int .i64 c,.pointer (some ⟨s+3,0,none⟩),.pointer (some ⟨s,0,none⟩),.pointer (some ⟨s+1,0,none⟩),.pointer (some ⟨s+4,0,none⟩)] w
   (XRetE A0 n0 k0 A1 ms.length k1 A2 n2 k2 ms compat s c vs.flatten w n f):=by
 have ON:=Lib.hid (fun W (hb:Below s w0 W)=>once_any A0 n0 k0 A1 ms.length k1 A2 n2 k2 ms c compat W (hA.below (hs0 ▸ hb)) rfl hbig hst)
 have q0:w.cell? ⟨s,0,none⟩=some (.slice A0 n0 k0):=hms.bN.cell rfl
 have q1:w.cell? ⟨s,1,none⟩=some (.slice A1 ms.length k1):=hms.bN.cell rfl
 have q2:w.cell? ⟨s,2,none⟩=some (.slice A2 n2 k2):=hms.bN.cell rfl
 have qb:w.cell? ⟨s+1,0,none⟩=some (.bool compat):=hms.bB.cell rfl
 have qm:w.cell? ⟨s+3,0,none⟩=some (.map (some (s+2))):=hms.bM.cell rfl
 have HM:=Lib.hid hms
 have HNW:=Lib.hid ((Full.node hR hlen hk).noway)
 have HFU:=Lib.hid (Full.node hR hlen hk)
 have HU:=Lib.hid (onM_uM hR)
 have HED:=Lib.hid (fun e (he:e ∈ to) x (h:x=e∨Path (onM ms compat) e x)=>show Path (onM ms compat) c x from h.elim (fun g=>g ▸ .one ⟨to,hR,he⟩) (fun g=>g.front ⟨to,hR,he⟩))
 have HIO:=Lib.hid (onM_codes hco hR)
 have HTL:=Lib.hid (onM_kids hco hR).1
 have IH:=Lib.hid ih
 have HLN:=Lib.hid hlen
 rw [hR] at ON
 have hsw:s+4 < w.heap.size:=hms.bX.lt
 clear hms hA hst hco hR hk ih hlen hs0
 go_enter Tryz.func117,Tryz.ntmps117
 go_wp2_with (at_lookup;refine wpList_lookOk rfl _ _ 163 rfl HM.out.mp law_int Tryz.underlying163 (zero_intsM _) rfl rfl hc (key_int hc) ?_;rw [hfc];simp only [Option.getD_none,Option.isSome_none])
 with_reducible refine (ON.out _ hbel).mono ?_
 rintro e w1 ⟨E,d,rfl,hd,hE,hb1⟩
 simp only [Option.getD_some,Option.isSome_some] at hd hE ⊢
 have HM1:=Lib.hid (HM.out.below hb1)
 have hsw1:s+4 < w1.heap.size:=by have:=hb1.size;omega
 have hww:w.heap.size≤w1.heap.size:=hb1.size
 have HG1:=Lib.hid (show w.grownBy w1 (some (s+2)) from grownR_below (grownR_refl w _) hb1)
 have htl:=HTL.out
 have HB1:=Lib.hid (hbel.trans (hb1.mono (by omega:s≤w.heap.size)))
 have HE:=Lib.hid hE
 clear ON hE hb1 q0 q1 q2 qb qm
 go_wp2_with fail
 go_loopw [11,35] (fun u q wr=>∃(i n':Nat) (f':Int→Option Value) (B:Option Addr) (k:Nat),i≤to.length∧u=.slice B ((vs.take i).flatten).length k∧q=.int .i64 i∧XLoop A0 n0 k0 A1 ms.length k1 A2 n2 k2 ms compat s (Path (onM ms compat) c) ((vs.take i).flatten) w w1 n f B k wr n' f')
  (fun _ q _=>to.length - (intOf q).toNat)
 case atStart=>
  exact ⟨0,n,f,none,0,Nat.zero_le _,rfl,rfl,⟨World.ownsRow_nil _ _ _ _,HM1.out,grownR_refl _ _,Nat.le_refl _,fun x E' m d e=>.inl e,fun x e=>.inl e,Apart.nil f⟩⟩
 case round=>
  obtain ⟨i,n',f',B,k,hile,rfl,rfl,HL0⟩:=hrel
  have HL:=Lib.hid HL0
  clear HL0
  by_cases hi:i < to.length
  ·have hv:i < vs.length:=by rw [HLN.out];exact hi
   obtain ⟨b,o,rfl,hcell⟩:=(show Ints wr E to from Sl.grownM HE.out HL.out.gr HM1.out.mp.nocell).at hi
   have hc0:=hcell i hi
   clear hcell
   have p5:wr.cell? ⟨s+4,0,none⟩=some (.func (.func 117) #[] #[.pointer (some ⟨s+3,0,none⟩),.pointer (some ⟨s,0,none⟩),.pointer (some ⟨s+1,0,none⟩),.pointer (some ⟨s+4,0,none⟩)]):=HL.out.st.bX.cell rfl
   have hmem:to[i] ∈ to:=List.getElem_mem hi
   have hfl:((vs.take i).flatten).length+vs[i].length≤4096:=by
    have h1:=flat_take_le vs (i+1)
    rw [flat_take_succ hv,List.length_append] at h1
    omega
   have CL:=Lib.hid (IH.out i hi hv (HIO.out _ hmem) (by omega) wr n' f' HL.out.st (HB1.out.trans (below_of_grown HL.out.gr (by omega) (by omega))) (by have:=HL.out.pot;omega))
   have NX:=Lib.hid (fun (E2:Option Addr) W n9 f9 (p:XRet A0 n0 k0 A1 ms.length k1 A2 n2 k2 ms compat s to[i] vs[i] wr n' f' E2 W n9 f9)=>HL.out.call hww hsw1 (HED.out _ hmem) p)
   have FSq:=Lib.hid (flat_take_succ hv)
   clear hmem
   generalize to[i]=te at *
   generalize vs[i]=ve at *
   generalize (vs.take i).flatten=fl at *
   go_wp2_with fail
   with_reducible refine CL.out.mono ?_
   rintro e W ⟨E2,d2,n9,f9,rfl,hd2,hp⟩
   have HL2:=Lib.hid (NX.out E2 W n9 f9 hp)
   have HE2:=Lib.hid hp.ints
   clear hp CL NX p5 HL
   go_wp2_with (at_builtin;refine wpList_app _ _ 37 3 (.int .i64 0) 1 8 rfl rfl Tryz.underlying37 info_int rfl (by decide) (by decide) rfl HL2.out.own rfl HE2.out (by simp) (oneCell_ints _) (by omega) HL2.out.lt ?_;intro B3 k3 w3 hown3 hc3 hb3 hg3 hB3)
   have HL3:=Lib.hid (HL2.out.app hsw1 hown3 hb3 hg3 hB3)
   clear hown3 hb3 hg3 hB3 HL2 HE2
   go_wp2_with fail
   go_roundw
   case rel=>exact ⟨i+1,n9,f9,B3,k3,by omega,by rw [FSq.out,List.length_append],by go_num,by rw [FSq.out];exact HL3.out⟩
   case measure=>simp [intOf];omega
  ·have hi':i=to.length:=by omega
   subst hi'
   have p3:wr.cell? ⟨s+3,0,none⟩=some (.map (some (s+2))):=HL.out.st.bM.cell rfl
   have hfe:(vs.take to.length).flatten=vs.flatten:=by rw [←HLN.out,List.take_length]
   rw [hfe] at HL ⊢
   have hfc':f' c=none:=by
    cases hx:f' c with
    | none=>rfl
    | some v=>
     rcases HL.out.mks c (by rw [hx];simp) with e | e
     ·exact absurd hfc e
     ·exact absurd e HNW.out
   have hpot:n'+1+unmarked (uM ms) (putM (mkF f') c 0)≤n+unmarked (uM ms) (mkF f):=by
    have h1:=unmarked_put (k:=0) HU.out (mkF_none.2 hfc')
    have h2:=HL.out.pot
    omega
   have HPOT:=Lib.hid hpot
   have hnn:n' < maxLen:=by unfold maxLen;omega
   obtain ⟨hkk,hbl⟩:vs.flatten.length≤k∧∀g o,B=some ⟨g,o,none⟩→w.heap.size≤g:=by
    refine ⟨?_,fun g o hB=>?_⟩
    ·obtain ⟨_,_,hv,hk⟩:=own_form HL.out.own
     injection hv with _ _ hv
     subst hv
     exact hk
    ·subst hB
     rcases HL.out.own.2 with ⟨hv,_⟩ | ⟨g',cap,cur,hv,h1,h2,_⟩
     ·cases hv
     ·injection hv with hv
      injection hv with hv
      injection hv with hv
      subst hv
      omega
   have HBL:=Lib.hid hbl
   have HEX:=Lib.hid (show Ints wr B vs.flatten from Sl.of_own HL.out.own)
   clear hpot hfc' hbl hfe
   generalize vs.flatten=fl at *
   go_wp2_with (at_mapUpdate;refine wpList_mput rfl _ _ _ 163 rfl HL.out.st.mp law_int Tryz.underlying163 hnn rfl rfl rfl hc (key_int hc) (fun y _ e=>ikey_inj e) ?_;intro w3 hM3 hg3)
   go_ret
   refine ⟨B,k,n'+1,_,rfl,hkk,Sl.grownM HEX.out hg3 HL.out.st.mp.nocell,HL.out.st.put hM3 hg3 hkk HFU.out HEX.out,(grownR_trans (grownR_trans HG1.out HL.out.gr) hg3),by rw [mkF_put];exact HPOT.out,fun x E' m d e=>?_,fun x e=>?_⟩
   ·by_cases hx:x=c
    ·rw [if_pos hx] at e
     injection e with e
     injection e with e1 e2 e3
     subst e1
     exact .inr (.inr HBL.out)
    ·rw [if_neg hx] at e
     exact HL.out.fr x E' m d e
   ·by_cases hx:x=c
    ·exact .inr (.inl hx)
    ·rw [if_neg hx] at e
     rcases HL.out.mks x e with e1 | e1
     ·exact .inl e1
     ·exact .inr (.inr e1)
theorem expand_ok (A0:Option Addr) (n0 k0:Nat) (A1:Option Addr) (k1:Nat) (A2:Option Addr) (n2 k2:Nat) (s:Nat) (ms:List Mp) (compat:Bool) (w0:World) (hs0:s=w0.heap.size) (hA:Mps w0 A1 ms) (hst:StF ms) (hco:CodesOk ms) (hbig:ms.length≤1048576) {c:Int} {l:List Int}
  (hfull:Full (onM ms compat) c l):XOk A0 n0 k0 A1 ms.length k1 A2 n2 k2 ms compat s w0 c l:=by
 induction hfull with
 | @leaf c hR=>
  intro hc hl w n f hms hbel hn
  cases hf:f c with
  | some v=>exact expand_found A0 n0 k0 A1 k1 A2 n2 k2 s ms compat w0 hs0 hA hst hco hbig c [c] (.leaf hR) hc w n f hms hbel hn hf
  | none=>exact expand_leaf A0 n0 k0 A1 k1 A2 n2 k2 s ms compat w0 hs0 hA hst hco hbig c hR hc w n f hms hbel hn hf
 | @node c to vs hR hlen hk ih=>
  intro hc hl w n f hms hbel hn
  cases hf:f c with
  | some v=>exact expand_found A0 n0 k0 A1 k1 A2 n2 k2 s ms compat w0 hs0 hA hst hco hbig c _ (.node hR hlen hk) hc w n f hms hbel hn hf
  | none=>exact expand_node A0 n0 k0 A1 k1 A2 n2 k2 s ms compat w0 hs0 hA hst hco hbig c to vs hR hlen hk ih hc hl w n f hms hbel hn hf
end Go.Proofs.YtijgbonhjcblcaaGreatDoor
namespace Go.Proofs.YtijgbonhjcblcaaGreatDoor
open Go.RowKit Go.Maps Go.WideMaps
theorem info_ints:(Tryz.prog.info? 37).map (fun i=>(i.zero,i.size,i.bytes))=some (some (.slice none 0 0),1,24):=by kernel_rfl
theorem Box.slT {w:World} {b:Nat} {t:TypeId} {cs:List Value} (h:Box w b t cs) (k:Nat):Sl w (some ⟨b,0,none⟩) (cs.take k):=fun _=>⟨b,0,rfl,fun j u hu=>by
 rw [Nat.zero_add]
 refine h.cell ?_
 rw [List.getElem?_take] at hu
 split at hu
 ·exact hu
 ·cases hu⟩
theorem idx4 (x y z u:Value) (W:World):(Instr.index 113 (.agg #[x,y,z,u]) (.int .i64 0)).run Tryz.prog W=.ok x W∧(Instr.index 113 (.agg #[x,y,z,u]) (.int .i64 1)).run Tryz.prog W=.ok y W∧(Instr.index 113 (.agg #[x,y,z,u]) (.int .i64 2)).run Tryz.prog W=.ok z W∧(Instr.index 113 (.agg #[x,y,z,u]) (.int .i64 3)).run Tryz.prog W=.ok u W:=⟨by kernel_rfl,by kernel_rfl,by kernel_rfl,by kernel_rfl⟩
theorem mixR_self (r r':Nat→List Int) (j:Nat):mixR r r' j j=r j:=if_neg (by omega)
theorem wround {wr w3:World} {base L jj:Nat} {A:Nat→Option Addr} {C:Nat→Nat} {rr:Nat→List Int} {u:Int} {B3:Option Addr} {k3:Nat} {T:TypeId} {o:Obj} (hR:R4 wr base A C rr) (hX:Box wr L T (lcs A C rr)) (hL:L < base) (hj:jj < 4)
  (hown3:w3.ownsRow base 3 1 (.slice B3 ((rr jj).length+1) k3) ((rr jj).length+1) ((rr jj).map (Value.int .i64)++[.int .i64 u])) (hg:(wr.alloc o).grownBy w3 (Value.ownBlock (.slice (A jj) (rr jj).length (C jj)))) (hb:Below base (wr.alloc o) w3) (hB:B3=A jj∨B3=some ⟨(wr.alloc o).heap.size,0,none⟩) :
  R4 (w3.setCell ⟨L,jj,none⟩ (.slice B3 ((rr jj).length+1) k3)) base (upd A jj B3) (upd C jj k3) (upd rr jj (rr jj++[u]))∧Box (w3.setCell ⟨L,jj,none⟩ (.slice B3 ((rr jj).length+1) k3)) L T (lcs (upd A jj B3) (upd C jj k3) (upd rr jj (rr jj++[u]))):=by
 have hal:Below wr.heap.size wr (wr.alloc o):=(Below.refl _ _).alloc (Nat.le_refl _) _
 have el:(rr jj++[u]).length=(rr jj).length+1:=by simp
 refine ⟨R4.keep (R4.put (hR.below hal) hj (zs:=rr jj++[u]) (by rw [el,List.map_append];exact hown3) (by rw [←ownBlock_blk (A jj) (rr jj).length (C jj)];exact hg) hB) (grown_set _ _ _) hL,?_⟩
 rw [←lcs_put A C rr hj B3 k3 (rr jj++[u]),el]
 exact ((hX.below hal hX.lt).below hb hL).set jj _
theorem WghAt.low {w w':World} {s base:Nat} {va:Int} {a:Bool} (h:WghAt w s va a) (hb:Below base w w') (hs:s+1 < base):WghAt w' s va a:=⟨h.b0.below hb (by omega),h.b1.below hb hs⟩
theorem WghAt.set {w:World} {s:Nat} {va:Int} {a:Bool} (h:WghAt w s va a) (p:Addr) (hp:p.block < s) (v:Value):WghAt (w.setCell p v) s va a:=⟨bx_ne h.b0 p (by omega) v,bx_ne h.b1 p (by omega) v⟩
theorem wt_af {va:Int} {a:Bool} {x:Elt} {k:Nat}:wtE va (aftE (if va=1 then false else a) x) x k=wtE va (aftE a x) x k:=by
 by_cases h:va=1
 ·subst h;rw [wtE_n,wtE_n]
 ·rw [if_neg h]
def afN (va:Int) (l:List Elt):Bool:=if va=1 then false else aftL false l
def rwN (va:Int) (l:List Elt):Nat→List Int:=rowK (wtsL va false l)
theorem rwN_next {va:Int} {es:List Elt} {i:Nat} (hi:i < es.length) (k:Nat):rwN va (es.take (i+1)) k=rwN va (es.take i) k++if wtE va (aftE (afN va (es.take i)) es[i]) es[i] k=0 then [] else [wtE va (aftE (afN va (es.take i)) es[i]) es[i] k]:=by
 unfold rwN afN
 rw [wtsL_take va hi,rowK_snoc,wt_af]
theorem afN_next {va:Int} {es:List Elt} {i:Nat} (hi:i < es.length):(if va=1 then afN va (es.take i) else aftE (afN va (es.take i)) es[i])=afN va (es.take (i+1)):=by
 unfold afN
 rw [aftL_take hi]
 by_cases h:va=1
 ·simp [h]
 ·simp [h]
theorem rwN_len (va:Int) (es:List Elt) (i k:Nat):(rwN va (es.take i) k).length≤es.length:=by
 unfold rwN
 refine Nat.le_trans (rowK_len _ _) ?_
 rw [wtsL_len,List.length_take]
 omega
def RetWgt (rows:List (List Int)) (w:World) (e:Ending) (w':World):Prop:=∃B d,e=.returned (.slice B rows.length d)∧RowsAt w' B rows∧Below w.heap.size w w'
theorem wgtL_rows {o:Opt} {es:List Elt} {n:Nat} {R:Nat→List Int} (hn:o.st=n) (hR:∀k,k < 4→R k=lvlK o es k) (hn4:n≤4):(List.range n).map R=wgtL o es:=by
 unfold wgtL
 rw [hn,Int.toNat_natCast]
 refine List.map_congr_left fun k hk=>hR k ?_
 have:=List.mem_range.1 hk
 omega
theorem weights_any (E:Option Addr) (n kE:Nat) (es:List Elt) (o:Opt) (w:World) (hE:Elts w E es) (hn:es.length=n) (hbig:n≤33554432) :
  Calls Tryz.prog 28 #[.slice E n kE,.agg #[.int .i64 o.st,.int .i64 o.va,.bool o.bk,.bool o.idn]] w (RetWgt (wgtL (optD o) es) w):=by
 subst hn
 have EF:=Lib.hid (fun W=>effective_any o W)
 obtain ⟨⟨hst1,hst4⟩,hva1,hva3⟩:=optD_bd o
 generalize optD o=od at *
 have WL:=Lib.hid (fun (n:Nat) R=>wgtL_rows (o:=od) (es:=es) (n:=n) (R:=R))
 have LK:=Lib.hid (fun k=>show lvlK od es k=if k=1∧od.bk=true then (rwN od.va es k).reverse else rwN od.va es k from rfl)
 obtain ⟨st0,va0,bk0,idn0⟩:=o
 generalize wgtL od es=wl at *
 generalize hlv:lvlK od es=lv at *
 clear hlv
 obtain ⟨st,va,bk,idn⟩:=od
 dsimp only at *
 have hva:va=1∨va=2∨va=3:=by omega
 have HVA:=Lib.hid hva
 clear hva hva1 hva3
 have HE:=Lib.hid hE
 have SN:=Lib.hid (fun i (hi:i < es.length) k=>rwN_next (va:=va) hi k)
 have AN:=Lib.hid (fun i (hi:i < es.length)=>afN_next (va:=va) hi)
 have RL:=Lib.hid (rwN_len va es)
 clear hE
 have B0:Below w.heap.size w (w.alloc (.cells #[.int .i64 st0,.int .i64 va0,.bool bk0,.bool idn0] 34)):=(Below.refl _ _).alloc (Nat.le_refl _) _
 have X0:Box (w.alloc (.cells #[.int .i64 st0,.int .i64 va0,.bool bk0,.bool idn0] 34)) w.heap.size 34 [.int .i64 st0,.int .i64 va0,.bool bk0,.bool idn0]:=Box.new w 34 [.int .i64 st0,.int .i64 va0,.bool bk0,.bool idn0] rfl
 have W0E:∃W0,(w.alloc (.cells #[.int .i64 st0,.int .i64 va0,.bool bk0,.bool idn0] 34))=W0:=⟨_,rfl⟩
 go_enter Tryz.func28,Tryz.ntmps28
 go_wp2_with fail
 obtain ⟨W0,hW0⟩:=W0E
 try rw [hW0] at B0 X0 ⊢
 clear hW0
 have c0:=X0.cell (i:=0) rfl
 have c1:=X0.cell (i:=1) rfl
 have c2:=X0.cell (i:=2) rfl
 have c3:=X0.cell (i:=3) rfl
 have l0:=X0.lt
 go_wp2_with fail
 with_reducible refine (EF.out _).mono ?_
 rintro e W1 ⟨rfl,hb1⟩
 have B1:=B0.trans (hb1.mono B0.size)
 have X1:=X0.below hb1 l0
 clear c0 c1 c2 c3 EF X0 hb1 B0
 have f0:=X1.free 0
 have f1:=X1.free 1
 have f2:=X1.free 2
 have f3:=X1.free 3
 have e0:=X1.cell (i:=0) rfl
 have e1:=X1.cell (i:=1) rfl
 have e2:=X1.cell (i:=2) rfl
 have e3:=X1.cell (i:=3) rfl
 have X5:Box ((((W1.setCell ⟨w.heap.size,0,none⟩ (.int .i64 st)).setCell ⟨w.heap.size,1,none⟩ (.int .i64 va)).setCell ⟨w.heap.size,2,none⟩ (.bool bk)).setCell ⟨w.heap.size,3,none⟩ (.bool idn)) w.heap.size 34 [.int .i64 st,.int .i64 va,.bool bk,.bool idn]:=(((X1.set 0 _).set 1 _).set 2 _).set 3 _
 have B5:Below w.heap.size w ((((W1.setCell ⟨w.heap.size,0,none⟩ (.int .i64 st)).setCell ⟨w.heap.size,1,none⟩ (.int .i64 va)).setCell ⟨w.heap.size,2,none⟩ (.bool bk)).setCell ⟨w.heap.size,3,none⟩ (.bool idn)):=(((B1.setCell (by simp) _).setCell (by simp) _).setCell (by simp) _).setCell (by simp) _
 have W5E:∃W5,((((W1.setCell ⟨w.heap.size,0,none⟩ (.int .i64 st)).setCell ⟨w.heap.size,1,none⟩ (.int .i64 va)).setCell ⟨w.heap.size,2,none⟩ (.bool bk)).setCell ⟨w.heap.size,3,none⟩ (.bool idn))=W5:=⟨_,rfl⟩
 go_upto_region 2 with (fail)
 obtain ⟨W5,hW5⟩:=W5E
 try rw [hW5] at B5 X5 ⊢
 clear hW5 f0 f1 f2 f3 e0 e1 e2 e3 X1 B1
 have k0:=X5.cell (i:=0) rfl
 have k1:=X5.cell (i:=1) rfl
 have k2:=X5.cell (i:=2) rfl
 have l5:=X5.lt
 have LB:Below W5.heap.size W5 (W5.alloc (.cells #[.slice none 0 0,.slice none 0 0,.slice none 0 0,.slice none 0 0] 108)):=(Below.refl _ _).alloc (Nat.le_refl _) _
 have LX:Box (W5.alloc (.cells #[.slice none 0 0,.slice none 0 0,.slice none 0 0,.slice none 0 0] 108)) W5.heap.size 108 (lcs (fun _=>none) (fun _=>0) (fun _=>[])):=Box.new W5 108 [.slice none 0 0,.slice none 0 0,.slice none 0 0,.slice none 0 0] rfl
 have W6E:∃W6,(W5.alloc (.cells #[.slice none 0 0,.slice none 0 0,.slice none 0 0,.slice none 0 0] 108))=W6:=⟨_,rfl⟩
 go_upto_region 3 with (fail)
 obtain ⟨W6,hW6⟩:=W6E
 try rw [hW6] at LB LX ⊢
 clear hW6 k0 k1 k2
 have q1:=(LB.cell (p:=⟨w.heap.size,1,none⟩) l5).trans (X5.cell (i:=1) rfl)
 have TC:=Lib.hid (treatment_any va W6)
 unfold RetTreat wghV at TC
 have s6:W5.heap.size < W6.heap.size:=LX.lt
 have HE5:=Lib.hid (HE.out.below B5)
 go_wp2_with fail
 with_reducible refine TC.out.mono ?_
 rintro e W7 ⟨rfl,hwg,hb7⟩
 have B7:Below W5.heap.size W5 W7:=LB.trans (hb7.mono LB.size)
 have s7:W6.heap.size+1 < W7.heap.size:=hwg.b1.lt
 have LX7:=LX.below hb7 s6
 have HF:=Lib.hid (show R4 W7 W7.heap.size (fun _=>none) (fun _=>0) (rwN va (es.take 0))∧Box W7 W5.heap.size 108 (lcs (fun _=>none) (fun _=>0) (rwN va (es.take 0)))∧WghAt W7 W6.heap.size va (afN va (es.take 0))∧Below W5.heap.size W5 W7 from by
  have e1:rwN va (es.take 0)=fun _=>[]:=by funext k;rfl
  have e2:afN va (es.take 0)=false:=by unfold afN;split <;> rfl
  rw [e1,e2]
  exact ⟨R4.nil _ _,LX7,hwg,B7⟩)
 have HX5:=Lib.hid X5
 have HB5:=Lib.hid B5
 clear TC q1 hwg hb7 LX LX7 LB X5 B7 B5
 go_wp2_with fail
 go_loopw [18] (fun u wr=>∃(i:Nat) (A:Nat→Option Addr) (C:Nat→Nat),i≤es.length∧u=.int .i64 i∧R4 wr W7.heap.size A C (rwN va (es.take i))∧Box wr W5.heap.size 108 (lcs A C (rwN va (es.take i)))∧WghAt wr W6.heap.size va (afN va (es.take i))∧W7.heap.size≤wr.heap.size∧Below W5.heap.size W5 wr) (fun u _=>es.length - (intOf u).toNat)
 case atStart=>exact ⟨0,_,_,Nat.zero_le _,rfl,HF.out.1,HF.out.2.1,HF.out.2.2.1,Nat.le_refl _,HF.out.2.2.2⟩
 case round=>
  obtain ⟨i,A,C,hi,rfl,hR,hX,hW,hsz,hbr⟩:=hrel
  have HR:=Lib.hid hR;have HX:=Lib.hid hX;have HW:=Lib.hid hW;have HBR:=Lib.hid hbr
  have hrs:=hbr.size
  clear hR hX hW HF
  by_cases hlt:i < es.length
  ·obtain ⟨b,o,rfl,hbl,hcell⟩:=(HE5.out.below hbr).at hlt
   obtain ⟨g0,g1,g2,g3⟩:=hcell i hlt
   have SNi:=Lib.hid (SN.out i hlt)
   have ANi:=Lib.hid (AN.out i hlt)
   clear hcell
   have RLi:=Lib.hid (RL.out i)
   generalize hr1:rwN va (es.take (i+1))=r' at *
   generalize ha1:afN va (es.take (i+1))=a' at *
   have HR1:=Lib.hid hr1
   have HA1:=Lib.hid ha1
   clear hr1 ha1
   generalize rwN va (es.take i)=r at *
   generalize afN va (es.take i)=af at *
   generalize es[i]=x at *
   have hne:¬b=wr.heap.size:=by omega
   have BA:Below wr.heap.size wr (wr.alloc (.cells #[.int .i64 x.p,.int .i64 x.s,.int .i64 x.t,.bool x.v] 112)):=(Below.refl _ _).alloc (Nat.le_refl _) _
   have XA:Box (wr.alloc (.cells #[.int .i64 x.p,.int .i64 x.s,.int .i64 x.t,.bool x.v] 112)) wr.heap.size 112 [.int .i64 x.p,.int .i64 x.s,.int .i64 x.t,.bool x.v]:=Box.new wr 112 [.int .i64 x.p,.int .i64 x.s,.int .i64 x.t,.bool x.v] rfl
   have WaE:∃Wa,(wr.alloc (.cells #[.int .i64 x.p,.int .i64 x.s,.int .i64 x.t,.bool x.v] 112))=Wa:=⟨_,rfl⟩
   go_upto_region 7 with (fail)
   obtain ⟨Wa,hWa⟩:=WaE
   try rw [hWa] at BA XA ⊢
   clear hWa g0 g1 g2 g3 hne
   have x0:=XA.cell (i:=0) rfl
   have x1:=XA.cell (i:=1) rfl
   have x2:=XA.cell (i:=2) rfl
   have x3:=XA.cell (i:=3) rfl
   have HWa:=Lib.hid (HW.out.below BA)
   have TR:=Lib.hid (treat1_any x va af W6.heap.size (W6.heap.size+1) Wa HWa.out.b0 HWa.out.b1 HVA.out)
   have has:=BA.size
   go_wp2_with fail
   with_reducible refine TR.out.mono ?_
   rintro e W8 ⟨rfl,hx8,hg8⟩
   have hw8:WghAt W8 W6.heap.size va a':=⟨HWa.out.b0.grown hg8 (by intro e;injection e with e;omega),by rw [←ANi.out];exact hx8⟩
   have HL8:=Lib.hid (show R4 W8 W7.heap.size A C (mixR r r' 0)∧Box W8 W5.heap.size 108 (lcs A C (mixR r r' 0))∧WghAt W8 W6.heap.size va a'∧W7.heap.size≤W8.heap.size∧Below W5.heap.size W5 W8 from by
    rw [mixR_zero]
    exact ⟨(HR.out.below BA).keep hg8 s7,(HX.out.below BA HX.out.lt).grown hg8 (by intro e;injection e with e;omega),hw8,by have:=hg8.size;omega,HBR.out.trans ((BA.mono hrs).trans (below_of_grown hg8 (by omega) (by omega)))⟩)
   clear x0 x1 x2 x3 TR XA hx8 hg8 hw8 HWa HR HX HW HBR hbr hrs has BA
   have S0:=Lib.hid (SNi.out 0);have S1:=Lib.hid (SNi.out 1);have S2:=Lib.hid (SNi.out 2);have S3:=Lib.hid (SNi.out 3)
   clear SNi ANi
   generalize wtE va (aftE af x) x 0=u0 at *
   generalize wtE va (aftE af x) x 1=u1 at *
   generalize wtE va (aftE af x) x 2=u2 at *
   generalize wtE va (aftE af x) x 3=u3 at *
   go_wp2_with fail
   go_loopw [25] (fun u wr=>∃(q:Int) (j:Nat) (A:Nat→Option Addr) (C:Nat→Nat),j≤4∧q=j∧u=.int .i64 q∧R4 wr W7.heap.size A C (mixR r r' j)∧Box wr W5.heap.size 108 (lcs A C (mixR r r' j))∧WghAt wr W6.heap.size va a'∧W7.heap.size≤wr.heap.size∧Below W5.heap.size W5 wr) (fun u _=>4 - (intOf u).toNat)
   case atStart=>exact ⟨0,0,A,C,by omega,rfl,rfl,HL8.out⟩
   case round=>
    obtain ⟨q,j,A,C,hj,hq,rfl,hR,hX,hW,hsz,hbr⟩:=hrel
    have HR:=Lib.hid hR;have HX:=Lib.hid hX;have HW:=Lib.hid hW;have HBR:=Lib.hid hbr
    have hrs:=hbr.size
    clear hR hX hW HL8 hbr
    have hj5:j=0∨j=1∨j=2∨j=3∨j=4:=by omega
    clear hj
    rcases hj5 with rfl | rfl | rfl | rfl | rfl
    ·obtain rfl:q=0:=by simpa using hq
     clear hq
     have ix:=fun W=>(idx4 (.int .i64 u0) (.int .i64 u1) (.int .i64 u2) (.int .i64 u3) W).1
     by_cases hu:u0=0
     ·have q:(u0 != 0)=false:=by simpa using hu
      have HS:=Lib.hid (mixR_same (r:=r) (r':=r') (j:=0) (by rw [S0.out,if_pos hu,List.append_nil]))
      clear hu
      go_wp2_with fail
      go_roundw
      case rel=>exact ⟨1,1,A,C,by omega,rfl,rfl,by rw [HS.out];exact HR.out,by rw [HS.out];exact HX.out,HW.out,hsz,HBR.out⟩
      case measure=>simp [intOf]
     ·have q:(u0 != 0)=true:=by simpa using hu
      have HS:=Lib.hid (show upd (mixR r r' 0) 0 (mixR r r' 0 0++[u0])=mixR r r' (0+1) from by
       have e:=mixR_next (r:=r) (r':=r') (j:=0)
       rw [S0.out,if_neg hu] at e
       rw [mixR_self]
       exact e)
      have hlen:(mixR r r' 0 0).length≤es.length:=RLi.out 0
      clear hu
      have cL:=HX.out.cell (i:=0) (v:=.slice (A 0) (mixR r r' 0 0).length (C 0)) rfl
      have lL:=HX.out.lt
      have HAL:=Lib.hid (fun (o:Obj)=>show Below wr.heap.size wr (wr.alloc o) from (Below.refl _ _).alloc (Nat.le_refl _) _)
      generalize hmr:mixR r r' 0=rr at *
      clear hmr
      go_wp2_with (at_builtin;refine wpList_app _ _ 37 3 (.int .i64 0) 1 8 rfl rfl Tryz.underlying37 info_int rfl (by decide) (by decide) rfl ((HR.out.own 0 (by omega)).alloc _) rfl (Ints_new wr [u0] _ rfl) (by simp) (oneCell_ints _) (by omega) (by simp;omega) ?_;intro B3 k3 w3 hown3 hc3 hb3 hg3 hB3;have f3:=((HX.out.below (HAL.out _) lL).below hb3 (show W5.heap.size < W7.heap.size by omega)).free 0;have g3:=((HX.out.below (HAL.out _) lL).below hb3 (show W5.heap.size < W7.heap.size by omega)).cell (i:=0) (v:=.slice (A 0) (rr 0).length (C 0)) rfl)
      have HWR:=Lib.hid (wround HR.out HX.out (show W5.heap.size < W7.heap.size by omega) (show 0 < 4 by omega) hown3 hg3 hb3 hB3)
      have HW3:=Lib.hid (((HW.out.below (HAL.out _)).low hb3 s7).set ⟨W5.heap.size,0,none⟩ s6 (.slice B3 ((rr 0).length+1) k3))
      have HB3:=Lib.hid ((HBR.out.trans (((HAL.out _).mono hrs).trans (hb3.mono (by omega)))).setCell (p:=⟨W5.heap.size,0,none⟩) (Nat.le_refl _) (.slice B3 ((rr 0).length+1) k3))
      have hs3:W7.heap.size≤w3.heap.size:=by have:=hb3.size;simp at this;omega
      rw [HS.out] at HWR
      clear hown3 hc3 hb3 hg3 hB3 f3 g3 cL
      go_wp2_with fail
      go_roundw
      case rel=>exact ⟨1,1,_,_,by omega,rfl,rfl,HWR.out.1,HWR.out.2,HW3.out,by simpa using hs3,HB3.out⟩
      case measure=>simp [intOf]
    ·obtain rfl:q=1:=by simpa using hq
     clear hq
     have ix:=fun W=>(idx4 (.int .i64 u0) (.int .i64 u1) (.int .i64 u2) (.int .i64 u3) W).2.1
     by_cases hu:u1=0
     ·have q:(u1 != 0)=false:=by simpa using hu
      have HS:=Lib.hid (mixR_same (r:=r) (r':=r') (j:=1) (by rw [S1.out,if_pos hu,List.append_nil]))
      clear hu
      go_wp2_with fail
      go_roundw
      case rel=>exact ⟨2,2,A,C,by omega,rfl,rfl,by rw [HS.out];exact HR.out,by rw [HS.out];exact HX.out,HW.out,hsz,HBR.out⟩
      case measure=>simp [intOf]
     ·have q:(u1 != 0)=true:=by simpa using hu
      have HS:=Lib.hid (show upd (mixR r r' 1) 1 (mixR r r' 1 1++[u1])=mixR r r' (1+1) from by
       have e:=mixR_next (r:=r) (r':=r') (j:=1)
       rw [S1.out,if_neg hu] at e
       rw [mixR_self]
       exact e)
      have hlen:(mixR r r' 1 1).length≤es.length:=RLi.out 1
      clear hu
      have cL:=HX.out.cell (i:=1) (v:=.slice (A 1) (mixR r r' 1 1).length (C 1)) rfl
      have lL:=HX.out.lt
      have HAL:=Lib.hid (fun (o:Obj)=>show Below wr.heap.size wr (wr.alloc o) from (Below.refl _ _).alloc (Nat.le_refl _) _)
      generalize hmr:mixR r r' 1=rr at *
      clear hmr
      go_wp2_with (at_builtin;refine wpList_app _ _ 37 3 (.int .i64 0) 1 8 rfl rfl Tryz.underlying37 info_int rfl (by decide) (by decide) rfl ((HR.out.own 1 (by omega)).alloc _) rfl (Ints_new wr [u1] _ rfl) (by simp) (oneCell_ints _) (by omega) (by simp;omega) ?_;intro B3 k3 w3 hown3 hc3 hb3 hg3 hB3;have f3:=((HX.out.below (HAL.out _) lL).below hb3 (show W5.heap.size < W7.heap.size by omega)).free 1;have g3:=((HX.out.below (HAL.out _) lL).below hb3 (show W5.heap.size < W7.heap.size by omega)).cell (i:=1) (v:=.slice (A 1) (rr 1).length (C 1)) rfl)
      have HWR:=Lib.hid (wround HR.out HX.out (show W5.heap.size < W7.heap.size by omega) (show 1 < 4 by omega) hown3 hg3 hb3 hB3)
      have HW3:=Lib.hid (((HW.out.below (HAL.out _)).low hb3 s7).set ⟨W5.heap.size,1,none⟩ s6 (.slice B3 ((rr 1).length+1) k3))
      have HB3:=Lib.hid ((HBR.out.trans (((HAL.out _).mono hrs).trans (hb3.mono (by omega)))).setCell (p:=⟨W5.heap.size,1,none⟩) (Nat.le_refl _) (.slice B3 ((rr 1).length+1) k3))
      have hs3:W7.heap.size≤w3.heap.size:=by have:=hb3.size;simp at this;omega
      rw [HS.out] at HWR
      clear hown3 hc3 hb3 hg3 hB3 f3 g3 cL
      go_wp2_with fail
      go_roundw
      case rel=>exact ⟨2,2,_,_,by omega,rfl,rfl,HWR.out.1,HWR.out.2,HW3.out,by simpa using hs3,HB3.out⟩
      case measure=>simp [intOf]
    ·obtain rfl:q=2:=by simpa using hq
     clear hq
     have ix:=fun W=>(idx4 (.int .i64 u0) (.int .i64 u1) (.int .i64 u2) (.int .i64 u3) W).2.2.1
     by_cases hu:u2=0
     ·have q:(u2 != 0)=false:=by simpa using hu
      have HS:=Lib.hid (mixR_same (r:=r) (r':=r') (j:=2) (by rw [S2.out,if_pos hu,List.append_nil]))
      clear hu
      go_wp2_with fail
      go_roundw
      case rel=>exact ⟨3,3,A,C,by omega,rfl,rfl,by rw [HS.out];exact HR.out,by rw [HS.out];exact HX.out,HW.out,hsz,HBR.out⟩
      case measure=>simp [intOf]
     ·have q:(u2 != 0)=true:=by simpa using hu
      have HS:=Lib.hid (show upd (mixR r r' 2) 2 (mixR r r' 2 2++[u2])=mixR r r' (2+1) from by
       have e:=mixR_next (r:=r) (r':=r') (j:=2)
       rw [S2.out,if_neg hu] at e
       rw [mixR_self]
       exact e)
      have hlen:(mixR r r' 2 2).length≤es.length:=RLi.out 2
      clear hu
      have cL:=HX.out.cell (i:=2) (v:=.slice (A 2) (mixR r r' 2 2).length (C 2)) rfl
      have lL:=HX.out.lt
      have HAL:=Lib.hid (fun (o:Obj)=>show Below wr.heap.size wr (wr.alloc o) from (Below.refl _ _).alloc (Nat.le_refl _) _)
      generalize hmr:mixR r r' 2=rr at *
      clear hmr
      go_wp2_with (at_builtin;refine wpList_app _ _ 37 3 (.int .i64 0) 1 8 rfl rfl Tryz.underlying37 info_int rfl (by decide) (by decide) rfl ((HR.out.own 2 (by omega)).alloc _) rfl (Ints_new wr [u2] _ rfl) (by simp) (oneCell_ints _) (by omega) (by simp;omega) ?_;intro B3 k3 w3 hown3 hc3 hb3 hg3 hB3;have f3:=((HX.out.below (HAL.out _) lL).below hb3 (show W5.heap.size < W7.heap.size by omega)).free 2;have g3:=((HX.out.below (HAL.out _) lL).below hb3 (show W5.heap.size < W7.heap.size by omega)).cell (i:=2) (v:=.slice (A 2) (rr 2).length (C 2)) rfl)
      have HWR:=Lib.hid (wround HR.out HX.out (show W5.heap.size < W7.heap.size by omega) (show 2 < 4 by omega) hown3 hg3 hb3 hB3)
      have HW3:=Lib.hid (((HW.out.below (HAL.out _)).low hb3 s7).set ⟨W5.heap.size,2,none⟩ s6 (.slice B3 ((rr 2).length+1) k3))
      have HB3:=Lib.hid ((HBR.out.trans (((HAL.out _).mono hrs).trans (hb3.mono (by omega)))).setCell (p:=⟨W5.heap.size,2,none⟩) (Nat.le_refl _) (.slice B3 ((rr 2).length+1) k3))
      have hs3:W7.heap.size≤w3.heap.size:=by have:=hb3.size;simp at this;omega
      rw [HS.out] at HWR
      clear hown3 hc3 hb3 hg3 hB3 f3 g3 cL
      go_wp2_with fail
      go_roundw
      case rel=>exact ⟨3,3,_,_,by omega,rfl,rfl,HWR.out.1,HWR.out.2,HW3.out,by simpa using hs3,HB3.out⟩
      case measure=>simp [intOf]
    ·obtain rfl:q=3:=by simpa using hq
     clear hq
     have ix:=fun W=>(idx4 (.int .i64 u0) (.int .i64 u1) (.int .i64 u2) (.int .i64 u3) W).2.2.2
     by_cases hu:u3=0
     ·have q:(u3 != 0)=false:=by simpa using hu
      have HS:=Lib.hid (mixR_same (r:=r) (r':=r') (j:=3) (by rw [S3.out,if_pos hu,List.append_nil]))
      clear hu
      go_wp2_with fail
      go_roundw
      case rel=>exact ⟨4,4,A,C,by omega,rfl,rfl,by rw [HS.out];exact HR.out,by rw [HS.out];exact HX.out,HW.out,hsz,HBR.out⟩
      case measure=>simp [intOf]
     ·have q:(u3 != 0)=true:=by simpa using hu
      have HS:=Lib.hid (show upd (mixR r r' 3) 3 (mixR r r' 3 3++[u3])=mixR r r' (3+1) from by
       have e:=mixR_next (r:=r) (r':=r') (j:=3)
       rw [S3.out,if_neg hu] at e
       rw [mixR_self]
       exact e)
      have hlen:(mixR r r' 3 3).length≤es.length:=RLi.out 3
      clear hu
      have cL:=HX.out.cell (i:=3) (v:=.slice (A 3) (mixR r r' 3 3).length (C 3)) rfl
      have lL:=HX.out.lt
      have HAL:=Lib.hid (fun (o:Obj)=>show Below wr.heap.size wr (wr.alloc o) from (Below.refl _ _).alloc (Nat.le_refl _) _)
      generalize hmr:mixR r r' 3=rr at *
      clear hmr
      go_wp2_with (at_builtin;refine wpList_app _ _ 37 3 (.int .i64 0) 1 8 rfl rfl Tryz.underlying37 info_int rfl (by decide) (by decide) rfl ((HR.out.own 3 (by omega)).alloc _) rfl (Ints_new wr [u3] _ rfl) (by simp) (oneCell_ints _) (by omega) (by simp;omega) ?_;intro B3 k3 w3 hown3 hc3 hb3 hg3 hB3;have f3:=((HX.out.below (HAL.out _) lL).below hb3 (show W5.heap.size < W7.heap.size by omega)).free 3;have g3:=((HX.out.below (HAL.out _) lL).below hb3 (show W5.heap.size < W7.heap.size by omega)).cell (i:=3) (v:=.slice (A 3) (rr 3).length (C 3)) rfl)
      have HWR:=Lib.hid (wround HR.out HX.out (show W5.heap.size < W7.heap.size by omega) (show 3 < 4 by omega) hown3 hg3 hb3 hB3)
      have HW3:=Lib.hid (((HW.out.below (HAL.out _)).low hb3 s7).set ⟨W5.heap.size,3,none⟩ s6 (.slice B3 ((rr 3).length+1) k3))
      have HB3:=Lib.hid ((HBR.out.trans (((HAL.out _).mono hrs).trans (hb3.mono (by omega)))).setCell (p:=⟨W5.heap.size,3,none⟩) (Nat.le_refl _) (.slice B3 ((rr 3).length+1) k3))
      have hs3:W7.heap.size≤w3.heap.size:=by have:=hb3.size;simp at this;omega
      rw [HS.out] at HWR
      clear hown3 hc3 hb3 hg3 hB3 f3 g3 cL
      go_wp2_with fail
      go_roundw
      case rel=>exact ⟨4,4,_,_,by omega,rfl,rfl,HWR.out.1,HWR.out.2,HW3.out,by simpa using hs3,HB3.out⟩
      case measure=>simp [intOf]
    ·obtain rfl:q=4:=by simpa using hq
     clear hq
     have HM:=Lib.hid (mixR_all HR.out)
     have HXX:=Lib.hid (show Box wr W5.heap.size 108 (lcs A C r') from by rw [←HM.out.2];exact HX.out)
     go_wp2_with fail
     go_roundw
     case rel=>exact ⟨i+1,A,C,by omega,by go_num,by rw [HR1.out];exact HM.out.1,by rw [HR1.out];exact HXX.out,by rw [HA1.out];exact HW.out,hsz,HBR.out⟩
     case measure=>simp [intOf];omega
  ·obtain rfl:i=es.length:=by omega
   have c0:=(hbr.cell (p:=⟨w.heap.size,0,none⟩) l5).trans (HX5.out.cell (i:=0) rfl)
   have c2:=(hbr.cell (p:=⟨w.heap.size,2,none⟩) l5).trans (HX5.out.cell (i:=2) rfl)
   rw [List.take_length] at HR HX HW
   have RLe:=RL.out es.length 1
   rw [List.take_length] at RLe
   clear SN AN RL HE5
   cases bk with
   | true=>
    have hc1:=HX.out.cell (i:=1) (v:=.slice (A 1) (rwN va es 1).length (C 1)) rfl
    have RV:=Lib.hid (rev_own (A 1) (rwN va es 1).length (C 1) W7.heap.size (rwN va es 1) wr (HR.out.own 1 (by omega)) rfl (by omega))
    have LK1:=Lib.hid (show ∀k,k < 4→upd (rwN va es) 1 (rwN va es 1).reverse k=lv k from fun k hk=>by
     rw [LK.out]
     by_cases e:k=1
     ·subst e;rw [upd_at,if_pos ⟨rfl,rfl⟩]
     ·rw [upd_ne e,if_neg (fun g=>e g.1)])
    go_wp2_with fail
    with_reducible refine RV.out.mono ?_
    rintro e W9 ⟨rfl,ho9,hg9⟩
    rw [ownBlock_blk] at hg9
    have HR9:=Lib.hid (show R4 W9 W7.heap.size (upd A 1 (A 1)) (upd C 1 (C 1)) (upd (rwN va es) 1 (rwN va es 1).reverse) from HR.out.put (by omega) (zs:=(rwN va es 1).reverse) (by rw [List.length_reverse];exact ho9) hg9 (.inl rfl))
    have hge:∀q,blk (A 1)=some q→W7.heap.size≤q:=fun q hq=>(HR.out.lt (by omega) hq).1
    have HX9:=Lib.hid (show Box W9 W5.heap.size 108 (lcs (upd A 1 (A 1)) (upd C 1 (C 1)) (upd (rwN va es) 1 (rwN va es 1).reverse)) from by
     have e:=lcs_put A C (rwN va es) (j:=1) (by omega) (A 1) (C 1) (rwN va es 1).reverse
     rw [List.length_reverse] at e
     rw [←e,show (lcs A C (rwN va es)).set 1 (.slice (A 1) (rwN va es 1).length (C 1))=lcs A C (rwN va es) from rfl]
     refine HX.out.grown hg9 (fun e=>?_)
     have:=hge _ e.symm
     omega)
    have hb9:Below W5.heap.size W5 W9:=hbr.trans ⟨hg9.os,hg9.tape,hg9.output,hg9.size,fun k hk=>hg9.block k (by omega) (fun e=>by have:=hge _ e.symm;omega)⟩
    have d0:=(hb9.cell (p:=⟨w.heap.size,0,none⟩) l5).trans (HX5.out.cell (i:=0) rfl)
    have hz9:W5.heap.size≤W9.heap.size:=hb9.size
    clear RV ho9 hg9 hc1 c0 c2 HR HX HW
    generalize upd (rwN va es) 1 (rwN va es 1).reverse=r9 at *
    generalize upd A 1 (A 1)=A9 at *
    generalize upd C 1 (C 1)=C9 at *
    have hst:st=1∨st=2∨st=3∨st=4:=by omega
    rcases hst with rfl | rfl | rfl | rfl
    ·have HWL:=Lib.hid (WL.out 1 r9 rfl LK1.out (by omega))
     have hwl:wl.length=1:=by rw [←HWL.out];simp
     have HLEN:=Lib.hid hwl
     clear hwl
     go_wp2_with (at_builtin;refine wpList_app0 _ _ 46 37 (.slice none 0 0) 1 24 rfl rfl Tryz.underlying46 info_ints rfl (by decide) (by decide) rfl (m:=1) rfl (HX9.out.slT 1) rfl (by intro v hv;simp [lcs] at hv;rcases hv with rfl | rfl | rfl | rfl <;> rfl) (by omega) ?_;intro B6 k6 w6 hown6 hc6 hb6)
     have HRA:=Lib.hid (rows_lcs (HR9.out.below hb6) (show 1≤4 by omega) (Sl.of_own hown6))
     have hb8:=HB5.out.trans ((hb9.trans (hb6.mono hz9)).mono HB5.out.size)
     clear hown6 hb6
     go_wp2_with fail
     go_ret
     exact ⟨B6,k6,by rw [HLEN.out];rfl,by rw [←HWL.out];exact HRA.out,hb8⟩
    ·have HWL:=Lib.hid (WL.out 2 r9 rfl LK1.out (by omega))
     have hwl:wl.length=2:=by rw [←HWL.out];simp
     have HLEN:=Lib.hid hwl
     clear hwl
     go_wp2_with (at_builtin;refine wpList_app0 _ _ 46 37 (.slice none 0 0) 1 24 rfl rfl Tryz.underlying46 info_ints rfl (by decide) (by decide) rfl (m:=2) rfl (HX9.out.slT 2) rfl (by intro v hv;simp [lcs] at hv;rcases hv with rfl | rfl | rfl | rfl <;> rfl) (by omega) ?_;intro B6 k6 w6 hown6 hc6 hb6)
     have HRA:=Lib.hid (rows_lcs (HR9.out.below hb6) (show 2≤4 by omega) (Sl.of_own hown6))
     have hb8:=HB5.out.trans ((hb9.trans (hb6.mono hz9)).mono HB5.out.size)
     clear hown6 hb6
     go_wp2_with fail
     go_ret
     exact ⟨B6,k6,by rw [HLEN.out];rfl,by rw [←HWL.out];exact HRA.out,hb8⟩
    ·have HWL:=Lib.hid (WL.out 3 r9 rfl LK1.out (by omega))
     have hwl:wl.length=3:=by rw [←HWL.out];simp
     have HLEN:=Lib.hid hwl
     clear hwl
     go_wp2_with (at_builtin;refine wpList_app0 _ _ 46 37 (.slice none 0 0) 1 24 rfl rfl Tryz.underlying46 info_ints rfl (by decide) (by decide) rfl (m:=3) rfl (HX9.out.slT 3) rfl (by intro v hv;simp [lcs] at hv;rcases hv with rfl | rfl | rfl | rfl <;> rfl) (by omega) ?_;intro B6 k6 w6 hown6 hc6 hb6)
     have HRA:=Lib.hid (rows_lcs (HR9.out.below hb6) (show 3≤4 by omega) (Sl.of_own hown6))
     have hb8:=HB5.out.trans ((hb9.trans (hb6.mono hz9)).mono HB5.out.size)
     clear hown6 hb6
     go_wp2_with fail
     go_ret
     exact ⟨B6,k6,by rw [HLEN.out];rfl,by rw [←HWL.out];exact HRA.out,hb8⟩
    ·have HWL:=Lib.hid (WL.out 4 r9 rfl LK1.out (by omega))
     have hwl:wl.length=4:=by rw [←HWL.out];simp
     have HLEN:=Lib.hid hwl
     clear hwl
     go_wp2_with (at_builtin;refine wpList_app0 _ _ 46 37 (.slice none 0 0) 1 24 rfl rfl Tryz.underlying46 info_ints rfl (by decide) (by decide) rfl (m:=4) rfl (HX9.out.slT 4) rfl (by intro v hv;simp [lcs] at hv;rcases hv with rfl | rfl | rfl | rfl <;> rfl) (by omega) ?_;intro B6 k6 w6 hown6 hc6 hb6)
     have HRA:=Lib.hid (rows_lcs (HR9.out.below hb6) (show 4≤4 by omega) (Sl.of_own hown6))
     have hb8:=HB5.out.trans ((hb9.trans (hb6.mono hz9)).mono HB5.out.size)
     clear hown6 hb6
     go_wp2_with fail
     go_ret
     exact ⟨B6,k6,by rw [HLEN.out];rfl,by rw [←HWL.out];exact HRA.out,hb8⟩
   | false=>
    have LK1:=Lib.hid (show ∀k,k < 4→rwN va es k=lv k from fun k hk=>by
     rw [LK.out,if_neg (by simp)])
    have HR9:=HR
    have HX9:=HX
    have hb9:=hbr
    have hz9:W5.heap.size≤wr.heap.size:=hb9.size
    clear HR HX HW
    have hst:st=1∨st=2∨st=3∨st=4:=by omega
    generalize rwN va es=r9 at *
    rcases hst with rfl | rfl | rfl | rfl
    ·have HWL:=Lib.hid (WL.out 1 r9 rfl LK1.out (by omega))
     have hwl:wl.length=1:=by rw [←HWL.out];simp
     have HLEN:=Lib.hid hwl
     clear hwl
     go_wp2_with (at_builtin;refine wpList_app0 _ _ 46 37 (.slice none 0 0) 1 24 rfl rfl Tryz.underlying46 info_ints rfl (by decide) (by decide) rfl (m:=1) rfl (HX9.out.slT 1) rfl (by intro v hv;simp [lcs] at hv;rcases hv with rfl | rfl | rfl | rfl <;> rfl) (by omega) ?_;intro B6 k6 w6 hown6 hc6 hb6)
     have HRA:=Lib.hid (rows_lcs (HR9.out.below hb6) (show 1≤4 by omega) (Sl.of_own hown6))
     have hb8:=HB5.out.trans ((hb9.trans (hb6.mono hz9)).mono HB5.out.size)
     clear hown6 hb6
     go_wp2_with fail
     go_ret
     exact ⟨B6,k6,by rw [HLEN.out];rfl,by rw [←HWL.out];exact HRA.out,hb8⟩
    ·have HWL:=Lib.hid (WL.out 2 r9 rfl LK1.out (by omega))
     have hwl:wl.length=2:=by rw [←HWL.out];simp
     have HLEN:=Lib.hid hwl
     clear hwl
     go_wp2_with (at_builtin;refine wpList_app0 _ _ 46 37 (.slice none 0 0) 1 24 rfl rfl Tryz.underlying46 info_ints rfl (by decide) (by decide) rfl (m:=2) rfl (HX9.out.slT 2) rfl (by intro v hv;simp [lcs] at hv;rcases hv with rfl | rfl | rfl | rfl <;> rfl) (by omega) ?_;intro B6 k6 w6 hown6 hc6 hb6)
     have HRA:=Lib.hid (rows_lcs (HR9.out.below hb6) (show 2≤4 by omega) (Sl.of_own hown6))
     have hb8:=HB5.out.trans ((hb9.trans (hb6.mono hz9)).mono HB5.out.size)
     clear hown6 hb6
     go_wp2_with fail
     go_ret
     exact ⟨B6,k6,by rw [HLEN.out];rfl,by rw [←HWL.out];exact HRA.out,hb8⟩
    ·have HWL:=Lib.hid (WL.out 3 r9 rfl LK1.out (by omega))
     have hwl:wl.length=3:=by rw [←HWL.out];simp
     have HLEN:=Lib.hid hwl
     clear hwl
     go_wp2_with (at_builtin;refine wpList_app0 _ _ 46 37 (.slice none 0 0) 1 24 rfl rfl Tryz.underlying46 info_ints rfl (by decide) (by decide) rfl (m:=3) rfl (HX9.out.slT 3) rfl (by intro v hv;simp [lcs] at hv;rcases hv with rfl | rfl | rfl | rfl <;> rfl) (by omega) ?_;intro B6 k6 w6 hown6 hc6 hb6)
     have HRA:=Lib.hid (rows_lcs (HR9.out.below hb6) (show 3≤4 by omega) (Sl.of_own hown6))
     have hb8:=HB5.out.trans ((hb9.trans (hb6.mono hz9)).mono HB5.out.size)
     clear hown6 hb6
     go_wp2_with fail
     go_ret
     exact ⟨B6,k6,by rw [HLEN.out];rfl,by rw [←HWL.out];exact HRA.out,hb8⟩
    ·have HWL:=Lib.hid (WL.out 4 r9 rfl LK1.out (by omega))
     have hwl:wl.length=4:=by rw [←HWL.out];simp
     have HLEN:=Lib.hid hwl
     clear hwl
     go_wp2_with (at_builtin;refine wpList_app0 _ _ 46 37 (.slice none 0 0) 1 24 rfl rfl Tryz.underlying46 info_ints rfl (by decide) (by decide) rfl (m:=4) rfl (HX9.out.slT 4) rfl (by intro v hv;simp [lcs] at hv;rcases hv with rfl | rfl | rfl | rfl <;> rfl) (by omega) ?_;intro B6 k6 w6 hown6 hc6 hb6)
     have HRA:=Lib.hid (rows_lcs (HR9.out.below hb6) (show 4≤4 by omega) (Sl.of_own hown6))
     have hb8:=HB5.out.trans ((hb9.trans (hb6.mono hz9)).mono HB5.out.size)
     clear hown6 hb6
     go_wp2_with fail
     go_ret
     exact ⟨B6,k6,by rw [HLEN.out];rfl,by rw [←HWL.out];exact HRA.out,hb8⟩
end Go.Proofs.YtijgbonhjcblcaaGreatDoor
namespace Go.Proofs.YtijgbonhjcblcaaGreatDoor
open Go.RowKit
structure Found (n:Nat) (p:Nat→Bool) (i:Nat):Prop where
 le:i≤n
 lo:∀t,t < i→p t=false
 hi:∀t,i≤t→t < n→p t=true
def RetFound (n:Nat) (p:Nat→Bool) (w:World) (e:Ending) (w':World):Prop:=∃i:Nat,e=.returned (.int .i64 i)∧Found n p i∧Below w.heap.size w w'
theorem search_any (g:FuncId) (cb:Array Value) (n:Nat) (p:Nat→Bool) (w:World) (eg:∀args W,(callFunc g args).run Tryz.prog W=.ok (.enter g args) W) (hbig:n≤1099511627776)
  (hf:∀(i:Nat) (W:World),i < n→Below w.heap.size w W→Calls Tryz.prog g (#[.int .i64 i]++cb) W (RetBool (p i) W)) (hm:∀a b,a≤b→b < n→p a=true→p b=true) :
  Calls Tryz.prog 104 #[.int .i64 n,.func (.func g) #[] cb] w (RetFound n p w):=by
 have HF:=Lib.hid hf
 have HM:=Lib.hid hm
 clear hf hm
 go_enter Tryz.func104,Tryz.ntmps104
 go_wp2
 go_loopw [5,6] (fun u v wr=>∃i j:Nat,i≤j∧j≤n∧u=.int .i64 i∧v=.int .i64 j∧(∀t,t < i→p t=false)∧(∀t,j≤t→t < n→p t=true)∧Below w.heap.size w wr)
  (fun u v _=>(intOf v).toNat - (intOf u).toNat)
 case atStart=>exact ⟨0,n,Nat.zero_le _,Nat.le_refl _,rfl,rfl,fun t h=>by omega,fun t h1 h2=>by omega,Below.refl _ _⟩
 case round=>
  obtain ⟨i,j,hij,hj,rfl,rfl,hlo,hhi,hbel⟩:=hrel
  have HLO:=Lib.hid hlo;have HHI:=Lib.hid hhi;clear hlo hhi
  by_cases hlt:i < j
  ·obtain ⟨h,hh,h1,h2,h3⟩:∃h:Nat,((i:Int)+(j:Int)) / 2=(h:Int)∧i≤h∧h < j∧h < n:=⟨(i+j) / 2,by omega,by omega,by omega,by omega⟩
   have C:=Lib.hid (HF.out h wr h3 hbel)
   cases hp:p h with
   | true=>
    have HP:=Lib.hid hp
    rw [hp] at C
    clear hp
    go_wp2_with (go_at_fn g;refine C.out.mono ?_;rintro e w1 ⟨rfl,hb1⟩)
    go_roundw
    case rel=>exact ⟨i,h,h1,by omega,rfl,rfl,HLO.out,fun t g1 g2=>HM.out h t g1 g2 HP.out,hbel.trans (hb1.mono hbel.size)⟩
    case measure=>simp [intOf];omega
   | false=>
    have HP:=Lib.hid hp
    rw [hp] at C
    clear hp
    go_wp2_with (go_at_fn g;refine C.out.mono ?_;rintro e w1 ⟨rfl,hb1⟩)
    go_roundw
    case rel=>
     refine ⟨h+1,j,by omega,hj,by go_num,rfl,fun t g1=>?_,HHI.out,hbel.trans (hb1.mono hbel.size)⟩
     cases ht:p t with
     | false=>rfl
     | true=>have:=HM.out t h (by omega) h3 ht;rw [HP.out] at this;cases this
    case measure=>simp [intOf];omega
  ·obtain rfl:i=j:=by omega
   go_wp2_with fail
   go_ret
   exact ⟨i,rfl,⟨hj,HLO.out,HHI.out⟩,hbel⟩
end Go.Proofs.YtijgbonhjcblcaaGreatDoor
