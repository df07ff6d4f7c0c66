/- Texts that are merged into one file: TElems, SkRev, KeyPlain, OptCk, SkTreat, SkRows, RefMtA, RefMt, RefElems, TKnown, PackPlain. -/
import Derived.Test.YtkhmjidaeliccaaGreatDoorA01
import Derived.Test.YtkhmjidaeliccaaGreatDoorA02
import Derived.Test.YtkhmjidaeliccaaGreatDoorA04
import Derived.Test.YtkhmjidaeliccaaGreatDoorA06
import Derived.Test.YtkhmjidaeliccaaGreatDoorA08
import Derived.Test.YtkhmjidaeliccaaGreatDoorA11
import Derived.Test.YtkhmjidaeliccaaGreatDoorA12
import Derived.Test.YtkhmjidaeliccaaGreatDoorA13
import Derived.Test.YtkhmjidaeliccaaGreatDoorA14
import Derived.Deep.Cut
import Derived.Deep.DeepCutAuto
set_option maxRecDepth 100000
set_option maxHeartbeats 51200000
namespace Go.Proofs.YtkhmjidaeliccaaGreatDoor
open Go.RowKit Go.Maps Go.WideMaps
def slLen:Value→Nat
 | .slice _ n _=>n
 | _=>0
def elsN (x:Nrm) (c:Col) (t:List Int):List Elt:=Mtc.elems (cls (usN x).cls) (lastE (colD c).ents) (impE (colD c)) (dtx x false t)
structure EL (cl:Int→Int) (ent:List Int→Option (List Elt)) (imp:Int→List Elt) (els:List Elt) (tot:Nat) (b:Nat) (w1:World) (t:List Int) (A:Option Addr) (cap:Nat) (E:Option Addr) (k:Nat) (es:List Elt) (W:World):Prop where
 eq:es++Mtc.elems cl ent imp t=els
 own:W.ownsRow w1.heap.size 77 4 (.slice E es.length k) es.length (flatK Elt.cells es)
 gr:w1.grownBy W (some b)
 bd:es.length+16*t.length≤16*tot
 cp:t.length≤cap
 cm:cap≤9223372036854775807
 row:t≠[]→b < w1.heap.size∧∃off pre post,A=some ⟨b,off,none⟩∧Row W b off 3 pre post t
 io:∀z ∈ t,iok z
section
variable {cl:Int→Int} {ent:List Int→Option (List Elt)} {imp:Int→List Elt} {els:List Elt} {tot b:Nat} {w1:World} {t:List Int} {A:Option Addr} {cap:Nat} {E:Option Addr} {k:Nat} {es:List Elt} {W:World}
theorem EL.own_match (h:EL cl ent imp els tot b w1 t A cap E k es W) (ht:t≠[]) {W':World} (hg:W.grownBy W' (some b)):W'.ownsRow w1.heap.size 77 4 (.slice E es.length k) es.length (flatK Elt.cells es):=by
 refine h.own.kept hg ?_
 cases E with
 | none=>exact .inl rfl
 | some a=>
  right
  intro e
  have e':a.block=b:=by injection e
  rcases h.own.2 with ⟨hv,_⟩ | ⟨g,cp,cur,hv,h1,_⟩
  ·cases hv
  ·injection hv with hv
   injection hv with hv
   subst hv
   have:=(h.row ht).1
   dsimp only at e'
   omega
theorem EL.next (h:EL cl ent imp els tot b w1 t A cap E k es W) (ht:t≠[]) {off:Nat} {pre post:List Value} {W' W2:World} (hg:W.grownBy W' (some b)) (hp:(Mtc.ofPart ent imp (Mtc.matched cl ent t).1 (Mtc.matched cl ent t).2.2).length≤16) (hrow:A=some ⟨b,off,none⟩∧Row W' b off 3 pre post ((Mtc.matched cl ent t).1++(Mtc.matched cl ent t).2.1))
  {E':Option Addr} {k':Nat} (ho:W2.ownsRow w1.heap.size 77 4 (.slice E' (es.length+(Mtc.ofPart ent imp (Mtc.matched cl ent t).1 (Mtc.matched cl ent t).2.2).length) k') (es.length+(Mtc.ofPart ent imp (Mtc.matched cl ent t).1 (Mtc.matched cl ent t).2.2).length) (flatK Elt.cells es++flatK Elt.cells (Mtc.ofPart ent imp (Mtc.matched cl ent t).1 (Mtc.matched cl ent t).2.2))) (hb:Below w1.heap.size W' W2) :
  EL cl ent imp els tot b w1 (Mtc.matched cl ent t).2.1 (subA A cap (Mtc.matched cl ent t).1.length) (cap - (Mtc.matched cl ent t).1.length) E' k' (es++Mtc.ofPart ent imp (Mtc.matched cl ent t).1 (Mtc.matched cl ent t).2.2) W2:=by
 obtain ⟨hl1,hl2⟩:=Mtc.matched_len (cl:=cl) (ent:=ent) ht
 obtain ⟨hA,hrow⟩:=hrow
 have hcp:=h.cp
 have hcm:=h.cm
 have hbd:=h.bd
 have hmem:=Mtc.matched_mem (cl:=cl) (ent:=ent) (t:=t)
 have heq:=h.eq
 rw [Mtc.elems_step ht,←List.append_assoc] at heq
 have hbl:=(h.row ht).1
 have hio:=h.io
 have hgr:=h.gr
 generalize Mtc.matched cl ent t=mt at *
 generalize Mtc.ofPart ent imp mt.1 mt.2.2=l at *
 refine ⟨heq,by rw [List.length_append,flatK_append];exact ho,grown_belowB (grownR_trans hgr hg) hb (Nat.le_refl _),by rw [List.length_append];omega,by omega,by omega,fun hne=>⟨hbl,off+mt.1.length,pre++mt.1.map (Value.int .i64),post,?_,?_⟩,fun z hz=>hio z ((hmem z).1 (by simp [hz]))⟩
 ·have:=List.length_pos_iff.2 hne
  unfold subA
  rw [if_neg (by omega),hA,Option.map_some,Addr.add_lit]
 ·refine ⟨by rw [List.length_append,List.length_map,hrow.1],?_⟩
  have h2:=(hrow.keep (hb.block b hbl)).2
  unfold Blk at h2 ⊢
  rw [h2,List.map_append]
  simp only [List.append_assoc]
theorem EL.first {d:List Int} {n:Nat} {wb:World} (hA:w1.ownsRow wb.heap.size 3 1 (.slice A n cap) n (d.map (Value.int .i64))) (hn:d.length=n) (hio:∀z ∈ d,iok z) (hb:∀g o,A=some ⟨g,o,none⟩→g=b):EL cl ent imp (Mtc.elems cl ent imp d) d.length b w1 d A cap none 0 [] w1:=by
 refine ⟨rfl,World.ownsRow_nil _ _ _ _,grownR_refl _ _,by simp,?_,?_,fun hne=>?_,hio⟩
 ·obtain ⟨_,_,hv,hc⟩:=own_form hA
  injection hv with _ _ hv
  subst hv
  omega
 ·rcases hA.2 with ⟨hv,_⟩ | ⟨g,cp,cur,hv,_,_,_,h5,_⟩
  ·injection hv with _ _ hv
   omega
  ·injection hv with _ _ hv
   unfold maxLen at h5
   omega
 ·have hpos:=List.length_pos_iff.2 hne
  obtain ⟨g,post,rfl,h1,h2,h3,h4,h5⟩:=own_row hA (by omega)
  obtain rfl:=hb g 0 rfl
  exact ⟨h2.lt,0,[],post,rfl,h2⟩
end
theorem part_len {c:Col} (h:colErr c=0) (p:List Int) (q:Bool):(Mtc.ofPart (lastE c.ents) (impE c) p q).length≤16:=by
 unfold Mtc.ofPart
 split
 ·exact last_len h p
 ·unfold impE
  split <;> simp
theorem elems_own (A0:Option Addr) (n0 k0:Nat) (A1:Option Addr) (n1 k1:Nat) (A2:Option Addr) (n2 k2:Nat) (x:Nrm) (C:Option Addr) (n a:Nat) (B:Option Addr) (m b:Nat) (c:Col) (D:Option Addr) (dn dk:Nat) (t:List Int) (w:World) (hN:NrmAt w A0 n0 A1 n1 A2 n2 x) (hz:NrmSz x) (hL:Laid w) (hC:ColAt w C n B m c) (hcz:ColSz c) (hD:Ints w D t) (hn:t.length=dn) (hbig:dn≤16384) (hio:∀z ∈ t,iok z) :
  Calls Tryz.prog 22 #[.agg #[.slice A0 n0 k0,.slice A1 n1 k1,.slice A2 n2 k2],colV C n a B m b c,.slice D dn dk] w (RetOwnE (elsN x c t) w):=by
 subst hn
 have B0:Below w.heap.size w ((w.alloc (.cells #[.slice A0 n0 k0,.slice A1 n1 k1,.slice A2 n2 k2] 28)).alloc (.cells #[.slice C n a,.slice B m b,.int .i64 c.base,.int .i64 c.second,.int .i64 c.third] 32)):=((Below.refl _ _).alloc (Nat.le_refl _) _).alloc (by simp) _
 have X0:Box ((w.alloc (.cells #[.slice A0 n0 k0,.slice A1 n1 k1,.slice A2 n2 k2] 28)).alloc (.cells #[.slice C n a,.slice B m b,.int .i64 c.base,.int .i64 c.second,.int .i64 c.third] 32)) w.heap.size 28 [.slice A0 n0 k0,.slice A1 n1 k1,.slice A2 n2 k2]:=(Box.new w 28 [.slice A0 n0 k0,.slice A1 n1 k1,.slice A2 n2 k2] rfl).below (B:=w.heap.size+1) ((Below.refl _ _).alloc (by simp) _) (by omega)
 have X1:Box ((w.alloc (.cells #[.slice A0 n0 k0,.slice A1 n1 k1,.slice A2 n2 k2] 28)).alloc (.cells #[.slice C n a,.slice B m b,.int .i64 c.base,.int .i64 c.second,.int .i64 c.third] 32)) (w.heap.size+1) 32 [.slice C n a,.slice B m b,.int .i64 c.base,.int .i64 c.second,.int .i64 c.third]:=Box.new _ _ _ (by simp)
 have W0E:∃W0,((w.alloc (.cells #[.slice A0 n0 k0,.slice A1 n1 k1,.slice A2 n2 k2] 28)).alloc (.cells #[.slice C n a,.slice B m b,.int .i64 c.base,.int .i64 c.second,.int .i64 c.third] 32))=W0:=⟨_,rfl⟩
 have hxi:=dtx_iok (x:=x) false hio
 have hxl:=dtx_len x false t
 have HE:=Lib.hid (show elsN x c t=Mtc.elems (cls (usN x).cls) (lastE (colD c).ents) (impE (colD c)) (dtx x false t) from rfl)
 have MC:=Lib.hid (fun W (hb:Below w.heap.size w W)=>made_any C n a B m b c W (hC.below hb) hcz)
 have WC:=Lib.hid (fun W T (hb:Below w.heap.size w W) hT0 hT=>with_any A0 n0 k0 A1 n1 k1 A2 n2 k2 x T (colD c) w W hN hz hL hb hT0 hT)
 have DC:=Lib.hid (fun W (hb:Below w.heap.size w W)=>dText_own A0 n0 k0 A1 n1 k1 A2 n2 k2 x D t.length dk t false W (hN.below hb) hz (hL.below hb) (hD.below hb) rfl hbig hio)
 have hcv:=colD_ok c
 have PL:=Lib.hid (part_len hcv)
 have hce:=valid_ents hcv
 have hcb:=(col_grps hcv).2
 have hcs:=hz.us.z0
 have hca:=usN_asc x
 clear hN hz hL hC hcz hD hio hcv
 generalize elsN x c t=els at *
 generalize dtx x false t=d at *
 generalize (usN x).cls=cs at *
 unfold colV at *
 go_enter Tryz.func22,Tryz.ntmps22
 go_wp2_with fail
 obtain ⟨W0,hW0⟩:=W0E
 try rw [hW0] at B0 X0 X1 ⊢
 clear hW0
 have p00:=X0.cell (i:=0) rfl
 have p01:=X0.cell (i:=1) rfl
 have p02:=X0.cell (i:=2) rfl
 have p10:=X1.cell (i:=0) rfl
 have p11:=X1.cell (i:=1) rfl
 have p12:=X1.cell (i:=2) rfl
 have p13:=X1.cell (i:=3) rfl
 have p14:=X1.cell (i:=4) rfl
 have l0:=X0.lt
 have l1:=X1.lt
 have SH:=Lib.hid (fun W' (hb':Below W0.heap.size W0 W')=>show W'.cell? ⟨w.heap.size,0,none⟩=some (.slice A0 n0 k0)∧W'.cell? ⟨w.heap.size,1,none⟩=some (.slice A1 n1 k1)∧W'.cell? ⟨w.heap.size,2,none⟩=some (.slice A2 n2 k2)∧W'.cell? ⟨w.heap.size+1,0,none⟩=some (.slice C n a)∧W'.cell? ⟨w.heap.size+1,1,none⟩=some (.slice B m b)∧W'.cell? ⟨w.heap.size+1,2,none⟩=some (.int .i64 c.base)∧W'.cell? ⟨w.heap.size+1,3,none⟩=some (.int .i64 c.second)∧W'.cell? ⟨w.heap.size+1,4,none⟩=some (.int .i64 c.third)∧Below W0.heap.size W0 W' from ⟨(hb'.cell l0).trans p00,(hb'.cell l0).trans p01,(hb'.cell l0).trans p02,(hb'.cell l1).trans p10,(hb'.cell l1).trans p11,(hb'.cell l1).trans p12,(hb'.cell l1).trans p13,(hb'.cell l1).trans p14,hb'⟩)
 have TM:=Lib.hid (fun W (hb':Below W0.heap.size W0 W)=>(MC.out W (B0.trans (hb'.mono B0.size))).mono (R':=fun e W'=>∃v,e=.returned v∧(W'.cell? ⟨w.heap.size,0,none⟩=some (.slice A0 n0 k0)∧W'.cell? ⟨w.heap.size,1,none⟩=some (.slice A1 n1 k1)∧W'.cell? ⟨w.heap.size,2,none⟩=some (.slice A2 n2 k2)∧W'.cell? ⟨w.heap.size+1,0,none⟩=some (.slice C n a)∧W'.cell? ⟨w.heap.size+1,1,none⟩=some (.slice B m b)∧W'.cell? ⟨w.heap.size+1,2,none⟩=some (.int .i64 c.base)∧W'.cell? ⟨w.heap.size+1,3,none⟩=some (.int .i64 c.second)∧W'.cell? ⟨w.heap.size+1,4,none⟩=some (.int .i64 c.third)∧Below W0.heap.size W0 W')∧(∃T,v=.pointer (some ⟨T,0,none⟩)∧W.heap.size≤T∧TabAt W' T (colD c) (.slice none 0 0) 0)) (fun e W' ⟨T,he,g1,g2,g3⟩=>⟨_,he,SH.out W' (hb'.trans (g3.mono hb'.size)),T,rfl,g1,g2⟩))
 clear p00 p01 p02 p10 p11 p12 p13 p14
 refine wp_region_held_drew (S:=fun W'=>W'.cell? ⟨w.heap.size,0,none⟩=some (.slice A0 n0 k0)∧W'.cell? ⟨w.heap.size,1,none⟩=some (.slice A1 n1 k1)∧W'.cell? ⟨w.heap.size,2,none⟩=some (.slice A2 n2 k2)∧W'.cell? ⟨w.heap.size+1,0,none⟩=some (.slice C n a)∧W'.cell? ⟨w.heap.size+1,1,none⟩=some (.slice B m b)∧W'.cell? ⟨w.heap.size+1,2,none⟩=some (.int .i64 c.base)∧W'.cell? ⟨w.heap.size+1,3,none⟩=some (.int .i64 c.second)∧W'.cell? ⟨w.heap.size+1,4,none⟩=some (.int .i64 c.third)∧Below W0.heap.size W0 W') (by kernel_rfl) (SH.out _ ((Below.refl _ _).drew)) (fun hHeld=>?_)
 refine tK 0 13 ?_
 refine tK 2 15 ?_
 refine qE 1 14 (TM.out _ hHeld.2.2.2.2.2.2.2.2) ?_
 clear hHeld
 rintro _ W1 hHeld ⟨T,rfl,hT0,hTab⟩
 have TW:=Lib.hid ((WC.out W1 T (B0.trans (hHeld.2.2.2.2.2.2.2.2.mono B0.size)) (by have:=B0.size;have:W0.heap.size≤T:=hT0;omega) hTab).mono (R':=fun e W'=>∃v,e=.returned v∧(W'.cell? ⟨w.heap.size,0,none⟩=some (.slice A0 n0 k0)∧W'.cell? ⟨w.heap.size,1,none⟩=some (.slice A1 n1 k1)∧W'.cell? ⟨w.heap.size,2,none⟩=some (.slice A2 n2 k2)∧W'.cell? ⟨w.heap.size+1,0,none⟩=some (.slice C n a)∧W'.cell? ⟨w.heap.size+1,1,none⟩=some (.slice B m b)∧W'.cell? ⟨w.heap.size+1,2,none⟩=some (.int .i64 c.base)∧W'.cell? ⟨w.heap.size+1,3,none⟩=some (.int .i64 c.second)∧W'.cell? ⟨w.heap.size+1,4,none⟩=some (.int .i64 c.third)∧Below W0.heap.size W0 W')∧(v=.pointer (some ⟨T,0,none⟩)∧(∃A k,TabAt W' T (colD c) (.slice A cs.length k) (topS cs)∧Spans W' A cs))) (fun e W' ⟨he,h2,h3⟩=>⟨_,he,SH.out W' (hHeld.2.2.2.2.2.2.2.2.trans (below_of_grown h3 (show W0.heap.size≤T from hT0) hHeld.2.2.2.2.2.2.2.2.size)),rfl,h2⟩))
 refine qE 3 16 (TW.out) ?_
 clear hHeld
 rintro _ W2 hHeld ⟨rfl,AX,kX,hTab2,hSp2⟩
 refine tK 4 7 ?_
 refine wpAnyH_done (by kernel_rfl) ?_ _
 have hb2:=hHeld.2.2.2.2.2.2.2.2
 have hbw2:=B0.trans (hb2.mono B0.size)
 have q00:=hHeld.1
 have q01:=hHeld.2.1
 have q02:=hHeld.2.2.1
 have HT:=Lib.hid hTab2
 have HS:=Lib.hid hSp2
 have KD:=Lib.hid (DC.out W2 hbw2)
 have hbd:=hbw2.size
 clear hHeld SH TM TW WC MC hTab hTab2 hSp2 DC
 go_wp2_with fail
 with_reducible refine KD.out.mono ?_
 rintro e W3 ⟨E0,d0,rfl,hown,hb3⟩
 have HM:=Lib.hid (show ∀b,W2.heap.size≤b→MCtx T (colD c) cs AX kX b W2 from fun b hb=>⟨HT.out,HS.out,hb,hca,by omega,hce,⟨hcb.1,hcb.2.1⟩⟩)
 obtain ⟨bq,hbq,HBQ⟩:∃bq,W2.heap.size≤bq∧∀g o,E0=some ⟨g,o,none⟩→g=bq:=by
  cases E0 with
  | none=>exact ⟨_,Nat.le_refl _,fun g o h=>by cases h⟩
  | some ad=>
   rcases hown.2 with ⟨hv,_⟩ | ⟨g,cp,cur,hv,h1,_⟩
   ·cases hv
   ·injection hv with hv
    injection hv with hv
    subst hv
    exact ⟨g,h1,fun g' o h=>by injection h with h;injection h with h1 h2;exact h1.symm⟩
 have HF:=Lib.hid (EL.first (cl:=cls cs) (ent:=lastE (colD c).ents) (imp:=impE (colD c)) hown rfl hxi HBQ)
 rw [←HE.out] at HF
 have MT:=Lib.hid (HM.out bq hbq)
 clear HM HBQ hown KD q00 q01 q02 HT HS
 go_wp2_with fail
 go_loopw [8,9] (fun u v wr=>∃(t':List Int) (A':Option Addr) (cap':Nat) (E':Option Addr) (k':Nat) (es:List Elt),u=.slice E' es.length k'∧v=.slice A' t'.length cap'∧EL (cls cs) (lastE (colD c).ents) (impE (colD c)) els d.length bq W3 t' A' cap' E' k' es wr) (fun _ v _=>slLen v)
 case atStart=>exact ⟨d,E0,d0,none,0,[],rfl,rfl,HF.out⟩
 case round=>
  obtain ⟨t',A',cap',E',k',es,rfl,rfl,hel⟩:=hrel
  have HL:=Lib.hid hel
  have hcp:=hel.cp
  have hcm:=hel.cm
  have hbd2:=hel.bd
  have hwsz:=hel.gr.size
  have hwr:Below W2.heap.size W2 wr:=hb3.trans (below_of_grown hel.gr hbq hb3.size)
  by_cases hne:t'=[]
  ·have hes:=hel.eq
   rw [hne,Mtc.elems_nil,List.append_nil] at hes
   have hlt:t'.length=0:=by rw [hne];rfl
   have HO:=Lib.hid hel.own
   have hbb:=hbw2.trans (hwr.mono hbw2.size)
   have h3:=hb3.size
   clear hel HL
   subst hne
   subst hes
   go_wp2_with fail
   go_ret
   exact ⟨E',k',rfl,own_mono HO.out (by omega),hbb⟩
  ·have hpos:=List.length_pos_iff.2 hne
   obtain ⟨hbl,off,pre,post,rfl,hrow⟩:=hel.row hne
   have TC:=Lib.hid (tmatch_any T (colD c) cs AX kX bq off cap' pre post t' W2 wr MT.out hwr hrow hne (by omega) hcp hcm hel.io)
   have ML:=Mtc.matched_len (cl:=cls cs) (ent:=lastE (colD c).ents) hne
   have hpl:=PL.out (Mtc.matched (cls cs) (lastE (colD c).ents) t').1 (Mtc.matched (cls cs) (lastE (colD c).ents) t').2.2
   have OM:=Lib.hid (fun W' hg=>hel.own_match hne (W':=W') hg)
   have NX:=Lib.hid (fun (W' W2:World) (off:Nat) (pre post:List Value) hg hrow (E2:Option Addr) (k2:Nat) ho hb=>HL.out.next hne (off:=off) (pre:=pre) (post:=post) (W':=W') (W2:=W2) hg hpl hrow (E':=E2) (k':=k2) ho hb)
   unfold RetMatch RetMt at TC
   have hlt:decide ((0:Int) < (t'.length:Int))=true:=by simpa using hpos
   clear hel HL hrow
   generalize hmt:Mtc.matched (cls cs) (lastE (colD c).ents) t'=mt at *
   clear hmt
   generalize hpt:Mtc.ofPart (lastE (colD c).ents) (impE (colD c)) mt.1 mt.2.2=pt at *
   clear hpt
   obtain ⟨m1,m2,mk⟩:=mt
   dsimp only at *
   have hcut:=fun (W:World)=>run_cutFrom (some ⟨bq,off,none⟩) t'.length cap' m1.length (by omega) W
   go_wp2_with fail
   with_reducible refine TC.out.mono ?_
   rintro e W4 ⟨E4,d4,rfl,hE4,hrow4,hg4⟩
   have HO4:=Lib.hid (OM.out W4 hg4)
   have HE4:=Lib.hid hE4
   have HN4:=Lib.hid (fun W2=>NX.out W4 W2 off pre post hg4 ⟨rfl,hrow4⟩)
   have h34:W3.heap.size≤W4.heap.size:=Nat.le_trans hwsz hg4.size
   clear hE4 hrow4 hg4 OM NX TC
   go_wp2_with (at_builtin;refine wpList_app _ _ 54 77 (.agg #[.int .i64 0,.int .i64 0,.int .i64 0,.bool false]) 4 32 rfl rfl Tryz.underlying54 info_elt rfl (by decide) (by decide) rfl HO4.out rfl HE4.out (flatK_len Elt.cells 4 (fun _=>rfl) _) (oneCell_elts _) (by omega) h34 ?_;intro B5 k5 w5 hown5 hc5 hb5 hg5 hB5)
   have HL5:=Lib.hid (HN4.out w5 B5 k5 hown5 hb5)
   clear hown5 hb5 hg5 hB5 HN4 HO4 HE4
   go_wp2_with fail
   go_roundw
   case rel=>exact ⟨m2,_,_,B5,k5,es++pt,by rw [List.length_append],by rw [show t'.length - m1.length=m2.length by omega],HL5.out⟩
   case measure=>simp [slLen];omega
end Go.Proofs.YtkhmjidaeliccaaGreatDoor
namespace Go.Proofs.YtkhmjidaeliccaaGreatDoor
open Go.RowKit
def RvK (d d':List Int) (i:Nat):Prop:=d'.length=d.length∧∀k,k < d.length→d'[k]?=if k < i∨d.length - 1 - k < i then d[d.length - 1 - k]? else d[k]?
theorem RvK.zero (d:List Int):RvK d d 0:=⟨rfl,fun k _=>by rw [if_neg (by omega)]⟩
theorem RvK.done {d d':List Int} {i:Nat} (h:RvK d d' i) (hi:d.length≤2*i+1) (_h2:2*i≤d.length):d'=d.reverse:=by
 refine List.ext_getElem? fun k=>?_
 by_cases hk:k < d.length
 ·rw [h.2 k hk,List.getElem?_reverse hk]
  split
  ·rfl
  ·congr 1;omega
 ·rw [List.getElem?_eq_none (by rw [h.1];omega),List.getElem?_eq_none (by rw [List.length_reverse];omega)]
theorem RvK.step {d d':List Int} {i j:Nat} (h:RvK d d' i) (hij:i < j) (hj:j=d.length - 1 - i) (h2:2*i≤d.length) {x y:Int} (hx:d'[i]?=some x) (hy:d'[j]?=some y):RvK d ((d'.set i y).set j x) (i+1):=by
 have hl:=h.1
 have hx':=h.2 i (by omega)
 have hy':=h.2 j (by omega)
 rw [if_neg (by omega)] at hx' hy'
 refine ⟨by simp [hl],fun k hk=>?_⟩
 rw [List.getElem?_set,List.length_set,hl]
 by_cases e1:j=k
 ·subst e1
  rw [if_pos rfl,if_pos (by omega),if_pos (by omega),←hx,hx']
  congr 1;omega
 ·rw [if_neg e1,List.getElem?_set,hl]
  by_cases e2:i=k
  ·subst e2
   rw [if_pos rfl,if_pos (by omega),if_pos (by omega),←hy,hy']
   congr 1
  ·rw [if_neg e2,h.2 k hk]
   by_cases c:k < i∨d.length - 1 - k < i
   ·rw [if_pos c,if_pos (by omega)]
   ·rw [if_neg c,if_neg (by omega)]
end Go.Proofs.YtkhmjidaeliccaaGreatDoor
namespace Go.Proofs.YtkhmjidaeliccaaGreatDoor
open Go.RowKit
def noneE (e:Elt):Bool:=decide (e.p=0)&&decide (e.s=0)&&decide (e.t=0)
def rawE (e:Elt) (k:Nat):Int:=if k=0 then e.p else if k=1 then e.s else if k=2 then e.t else 0
end Go.Proofs.YtkhmjidaeliccaaGreatDoor
namespace Go.Proofs.YtkhmjidaeliccaaGreatDoor
open Go.RowKit
end Go.Proofs.YtkhmjidaeliccaaGreatDoor
namespace Go.Proofs.YtkhmjidaeliccaaGreatDoor
open Go.RowKit Go.Maps Go.WideMaps
structure WghAt (w:World) (s:Nat) (va:Int) (a:Bool):Prop where
 b0:Box w s 3 [.int .i64 va]
 b1:Box w (s+1) 4 [.bool a]
theorem WghAt.below {w w':World} {s:Nat} {va:Int} {a:Bool} (h:WghAt w s va a) (hb:Below w.heap.size w w'):WghAt w' s va a:=⟨h.b0.below hb h.b0.lt,h.b1.below hb h.b1.lt⟩
theorem gr_alloc {a w:World} {r:Option Nat} (h:a.grownBy w r) (o:Obj):a.grownBy (w.alloc o) r:=grownR_below h ((Below.refl _ _).alloc (Nat.le_refl _) _)
theorem gr_new {a w:World} {r:Option Nat} (h:a.grownBy w r) (p:Addr) (hp:a.heap.size≤p.block) (v:Value):a.grownBy (w.setCell p v) r:=
 ⟨h.os,h.tape,h.output,by simp [World.setCell];exact h.size,fun k hk hne=>(Below.heap_setCell w p v k (by omega)).trans (h.block k hk hne)⟩
theorem gr_set {a w:World} {p:Addr} (h:a.grownBy w (some p.block)) (v:Value):a.grownBy (w.setCell p v) (some p.block):=grownR_trans h (grown_set _ _ _)
theorem bx_alloc {w:World} {b:Nat} {t:TypeId} {cs:List Value} (h:Box w b t cs) (o:Obj):Box (w.alloc o) b t cs:=h.below ((Below.refl _ _).alloc (Nat.le_refl _) _) h.lt
theorem bx_ne {w:World} {b:Nat} {t:TypeId} {cs:List Value} (h:Box w b t cs) (p:Addr) (hp:b≠p.block) (v:Value):Box (w.setCell p v) b t cs:=(Below.heap_setCell w p v b (fun e=>hp e)).trans h
set_option linter.unusedSimpArgs false
end Go.Proofs.YtkhmjidaeliccaaGreatDoor
namespace Go.Proofs.YtkhmjidaeliccaaGreatDoor
open Go.RowKit
def blk (A:Option Addr):Option Nat:=A.map (fun a=>a.block)
theorem ownBlock_blk (A:Option Addr) (n c:Nat):Value.ownBlock (.slice A n c)=blk A:=by cases A <;> rfl
def upd {α:Type} (f:Nat→α) (j:Nat) (v:α):Nat→α:=fun k=>if k=j then v else f k
theorem upd_at {α:Type} (f:Nat→α) (j:Nat) (v:α):upd f j v j=v:=if_pos rfl
theorem upd_ne {α:Type} {f:Nat→α} {j k:Nat} {v:α} (h:k≠j):upd f j v k=f k:=if_neg h
structure R4 (w:World) (base:Nat) (A:Nat→Option Addr) (C:Nat→Nat) (R:Nat→List Int):Prop where
 own:∀k,k < 4→w.ownsRow base 3 1 (.slice (A k) (R k).length (C k)) (R k).length ((R k).map (Value.int .i64))
 ne:∀j k,j < 4→k < 4→j≠k→blk (A j)=none∨blk (A j)≠blk (A k)
section
variable {w w':World} {base:Nat} {A:Nat→Option Addr} {C:Nat→Nat} {R:Nat→List Int}
theorem R4.nil (w:World) (base:Nat):R4 w base (fun _=>none) (fun _=>0) (fun _=>[]):=⟨fun _ _=>World.ownsRow_nil _ _ _ _,fun _ _ _ _ _=>.inl rfl⟩
theorem R4.lt (h:R4 w base A C R) {k q:Nat} (hk:k < 4) (hq:blk (A k)=some q):base≤q∧q < w.heap.size:=(h.own k hk).lt q (by rw [ownBlock_blk];exact hq)
theorem R4.keep (h:R4 w base A C R) {q:Nat} (hg:w.grownBy w' (some q)) (hq:q < base):R4 w' base A C R:=by
 refine ⟨fun k hk=>(h.own k hk).kept hg ?_,h.ne⟩
 rw [ownBlock_blk]
 cases hb:blk (A k) with
 | none=>exact .inl rfl
 | some g=>
  right
  intro e
  injection e with e
  have:=(h.lt hk hb).1
  omega
theorem R4.below (h:R4 w base A C R) (hb:Below w.heap.size w w'):R4 w' base A C R:=⟨fun k hk=>own_keep (h.own k hk) hb,h.ne⟩
theorem R4.put (h:R4 w base A C R) {j:Nat} (hj:j < 4) {B:Option Addr} {k:Nat} {zs:List Int} (ho:w'.ownsRow base 3 1 (.slice B zs.length k) zs.length (zs.map (Value.int .i64))) (hg:w.grownBy w' (blk (A j))) (hB:B=A j∨B=some ⟨w.heap.size,0,none⟩) :
  R4 w' base (upd A j B) (upd C j k) (upd R j zs):=by
 refine ⟨fun i hi=>?_,fun i l hi hl hne=>?_⟩
 ·by_cases e:i=j
  ·subst e
   rw [upd_at,upd_at,upd_at]
   exact ho
  ·rw [upd_ne e,upd_ne e,upd_ne e]
   refine (h.own i hi).kept hg ?_
   rw [ownBlock_blk]
   exact h.ne i j hi hj e
 ·have nb:∀i,i < 4→i≠j→blk (A i)=none∨blk (A i)≠blk B:=fun i hi e=>by
   rcases hB with rfl | rfl
   ·exact h.ne i j hi hj e
   ·cases hb:blk (A i) with
    | none=>exact .inl rfl
    | some g=>
     right
     intro e2
     have e3:g=w.heap.size:=by injection e2
     have:=(h.lt hi hb).2
     omega
  by_cases e:i=j
  ·subst e
   rw [upd_at,upd_ne (fun g=>hne g.symm)]
   cases hb:blk B with
   | none=>exact .inl rfl
   | some g=>
    right
    rcases nb l hl (fun g=>hne g.symm) with g1 | g1
    ·rw [g1];simp
    ·rw [hb] at g1;exact fun e=>g1 e.symm
  ·rw [upd_ne e]
   by_cases e2:l=j
   ·subst e2
    rw [upd_at]
    exact nb i hi e
   ·rw [upd_ne e2]
    exact h.ne i l hi hl hne
end
end Go.Proofs.YtkhmjidaeliccaaGreatDoor
namespace Go.Proofs.YtkhmjidaeliccaaGreatDoor
open Go.RowKit Go.Maps Go.WideMaps
theorem ColSz.d {c:Col} (h:ColSz c):ColSz (colD c):=by
 by_cases he:colErr c=0
 ·rw [colD_good he];exact h
 ·rw [colD_bad he];exact ⟨fun i hi=>by simp [colB] at hi,by simp [colB],by simp [colB]⟩
end Go.Proofs.YtkhmjidaeliccaaGreatDoor
namespace Go.Proofs.YtkhmjidaeliccaaGreatDoor
open Go.RowKit Go.Maps Go.WideMaps
def R2 (p l:List Int):Nat→List Int:=fun k=>if k=0 then p else if k=1 then l else []
theorem R4.len {w:World} {base:Nat} {A:Nat→Option Addr} {C:Nat→Nat} {R:Nat→List Int} (h:R4 w base A C R) {k:Nat} (hk:k < 4):(R k).length≤C k:=by
 obtain ⟨_,_,hv,hc⟩:=own_form (h.own k hk)
 injection hv with _ _ hv
 subst hv
 exact hc
theorem R4.low {w w':World} {base:Nat} {A:Nat→Option Addr} {C:Nat→Nat} {R:Nat→List Int} (h:R4 w base A C R) (hbs:base≤w.heap.size) {k:Nat} (hk:k < 4) {n c:Nat} (hg:w.grownBy w' (Value.ownBlock (.slice (A k) n c))):Below base w w':=by
 rw [ownBlock_blk] at hg
 exact ⟨hg.os,hg.tape,hg.output,hg.size,fun q hq=>hg.block q (by omega) (fun e=>by have:=(h.lt hk e.symm).1;omega)⟩
end Go.Proofs.YtkhmjidaeliccaaGreatDoor
namespace Go.Proofs.YtkhmjidaeliccaaGreatDoor
open Go.RowKit Go.Maps Go.WideMaps
def knwN (x:Nrm) (c:Col) (t:List Int):Bool:=Mtc.known (cls (usN x).cls) (lastE (colD c).ents) (dtx x false t)
structure WL (cl:Int→Int) (ent:List Int→Option (List Elt)) (imp:Int→List Elt) (els:List Elt) (kn:Bool) (tot:Nat) (w1:World) (t:List Int) (A:Option Addr) (cap:Nat) (E:Option Addr) (k:Nat) (es:List Elt) (q:Bool) (W:World):Prop where
 eq:es++Mtc.elems cl ent imp t=els
 kq:(q&&Mtc.known cl ent t)=kn
 own:W.ownsRow w1.heap.size 77 4 (.slice E es.length k) es.length (flatK Elt.cells es)
 low:Below w1.heap.size w1 W
 bd:es.length+16*t.length≤16*tot
 cp:t.length≤cap
 row:Ints W A t
 ap:t≠[]→∀q,blk A=some q→blk E≠some q
section
variable {cl:Int→Int} {ent:List Int→Option (List Elt)} {imp:Int→List Elt} {els:List Elt} {kn:Bool} {tot:Nat} {w1:World} {t:List Int} {A:Option Addr} {cap:Nat} {E:Option Addr} {k:Nat} {es:List Elt} {q:Bool} {W:World}
theorem WL.next (h:WL cl ent imp els kn tot w1 t A cap E k es q W) (ht:t≠[]) {L:Option Addr} {l:Nat} {W' W2:World} (hb:Below W.heap.size W W') (hp:(Mtc.ofPart ent imp (Mtc.matched cl ent t).1 (Mtc.matched cl ent t).2.2).length≤16) (hL:Ints W' L (Mtc.matched cl ent t).2.1) (hl:(Mtc.matched cl ent t).2.1.length≤l) (hf:∀q,blk L=some q→blk A=some q∨W.heap.size≤q)
  {E':Option Addr} {k':Nat} (ho:W2.ownsRow w1.heap.size 77 4 (.slice E' (es.length+(Mtc.ofPart ent imp (Mtc.matched cl ent t).1 (Mtc.matched cl ent t).2.2).length) k') (es.length+(Mtc.ofPart ent imp (Mtc.matched cl ent t).1 (Mtc.matched cl ent t).2.2).length) (flatK Elt.cells es++flatK Elt.cells (Mtc.ofPart ent imp (Mtc.matched cl ent t).1 (Mtc.matched cl ent t).2.2))) (hb2:Below w1.heap.size W' W2) (hg:W'.grownBy W2 (Value.ownBlock (.slice E es.length k))) (hE:E'=E∨E'=some ⟨W'.heap.size,0,none⟩) :
  WL cl ent imp els kn tot w1 (Mtc.matched cl ent t).2.1 L l E' k' (es++Mtc.ofPart ent imp (Mtc.matched cl ent t).1 (Mtc.matched cl ent t).2.2) (q&&(Mtc.matched cl ent t).2.2) W2:=by
 obtain ⟨hl1,hl2⟩:=Mtc.matched_len (cl:=cl) (ent:=ent) ht
 have hbd:=h.bd
 have heq:=h.eq
 rw [Mtc.elems_step ht,←List.append_assoc] at heq
 have hkq:=h.kq
 rw [Mtc.known_step ht,←Bool.and_assoc] at hkq
 have hap:=h.ap ht
 have hlt:∀g,blk E=some g→w1.heap.size≤g∧g < W.heap.size:=fun g hg=>h.own.lt g (by rw [ownBlock_blk];exact hg)
 have hs:=hb.size
 rw [ownBlock_blk] at hg
 have hne:∀g,blk L=some g→blk E≠some g:=fun g hg e=>by
  rcases hf g hg with h1 | h1
  ·exact hap g h1 e
  ·have:=(hlt g e).2;omega
 refine ⟨heq,hkq,by rw [List.length_append,flatK_append];exact ho,(h.low.trans (hb.mono h.low.size)).trans hb2,by rw [List.length_append];omega,hl,?_,fun hn2 g hgl e=>?_⟩
 ·intro hnn
  obtain ⟨b,o,hA,hc⟩:=hL hnn
  refine ⟨b,o,hA,fun j u hu=>?_⟩
  have h1:=hc j u hu
  have hbl:=World.block_lt_of_cell? W' _ h1
  rw [World.cell?_of_block (hg.block b hbl (fun e=>hne b (by rw [hA];rfl) e.symm))]
  exact h1
 ·rcases hE with rfl | rfl
  ·exact hne g hgl e
  ·have e2:g=W'.heap.size:=by injection e with e;exact e.symm
   obtain ⟨b,o,hA,hc⟩:=Ints.at hL (k:=0) (List.length_pos_iff.2 hn2)
   have hbl:=World.block_lt_of_cell? W' _ (hc 0 (List.length_pos_iff.2 hn2))
   rw [hA] at hgl
   have e3:b=g:=by injection hgl
   dsimp only at hbl
   omega
end
end Go.Proofs.YtkhmjidaeliccaaGreatDoor
namespace Go.Proofs.YtkhmjidaeliccaaGreatDoor
open Go.RowKit Go.Maps Go.WideMaps
structure KL (cl:Int→Int) (ent:List Int→Option (List Elt)) (kn:Bool) (tot b:Nat) (w1:World) (t:List Int) (A:Option Addr) (cap:Nat) (W:World):Prop where
 eq:Mtc.known cl ent t=kn
 gr:w1.grownBy W (some b)
 bd:t.length≤tot
 cp:t.length≤cap
 cm:cap≤9223372036854775807
 row:t≠[]→b < w1.heap.size∧∃off pre post,A=some ⟨b,off,none⟩∧Row W b off 3 pre post t
 io:∀z ∈ t,iok z
section
variable {cl:Int→Int} {ent:List Int→Option (List Elt)} {kn:Bool} {tot b:Nat} {w1:World} {t:List Int} {A:Option Addr} {cap:Nat} {W:World}
theorem KL.no (h:KL cl ent kn tot b w1 t A cap W) (ht:t≠[]) (hm:(Mtc.matched cl ent t).2.2=false):kn=false:=by
 rw [←h.eq,Mtc.known_step ht,hm];rfl
theorem KL.next (h:KL cl ent kn tot b w1 t A cap W) (ht:t≠[]) (hm:(Mtc.matched cl ent t).2.2=true) {off:Nat} {pre post:List Value} {W':World} (hg:W.grownBy W' (some b)) (hrow:A=some ⟨b,off,none⟩∧Row W' b off 3 pre post ((Mtc.matched cl ent t).1++(Mtc.matched cl ent t).2.1)) :
  KL cl ent kn tot b w1 (Mtc.matched cl ent t).2.1 (subA A cap (Mtc.matched cl ent t).1.length) (cap - (Mtc.matched cl ent t).1.length) W':=by
 obtain ⟨hl1,hl2⟩:=Mtc.matched_len (cl:=cl) (ent:=ent) ht
 obtain ⟨hA,hrow⟩:=hrow
 have hcp:=h.cp
 have hcm:=h.cm
 have hbd:=h.bd
 have hmem:=Mtc.matched_mem (cl:=cl) (ent:=ent) (t:=t)
 have heq:=h.eq
 rw [Mtc.known_step ht,hm,Bool.true_and] at heq
 have hbl:=(h.row ht).1
 have hio:=h.io
 have hgr:=h.gr
 generalize Mtc.matched cl ent t=mt at *
 refine ⟨heq,grownR_trans hgr hg,by omega,by omega,by omega,fun hne=>⟨hbl,off+mt.1.length,pre++mt.1.map (Value.int .i64),post,?_,?_⟩,fun z hz=>hio z ((hmem z).1 (by simp [hz]))⟩
 ·have:=List.length_pos_iff.2 hne
  unfold subA
  rw [if_neg (by omega),hA,Option.map_some,Addr.add_lit]
 ·refine ⟨by rw [List.length_append,List.length_map,hrow.1],?_⟩
  have h2:=hrow.2
  unfold Blk at h2 ⊢
  rw [h2,List.map_append]
  simp only [List.append_assoc]
theorem KL.first {d:List Int} {n:Nat} {wb:World} (hA:w1.ownsRow wb.heap.size 3 1 (.slice A n cap) n (d.map (Value.int .i64))) (hn:d.length=n) (hio:∀z ∈ d,iok z) (hb:∀g o,A=some ⟨g,o,none⟩→g=b):KL cl ent (Mtc.known cl ent d) d.length b w1 d A cap w1:=by
 have h:=EL.first (cl:=cl) (ent:=ent) (imp:=fun _=>[]) (b:=b) hA hn hio hb
 exact ⟨rfl,h.gr,Nat.le_refl _,h.cp,h.cm,h.row,h.io⟩
end
theorem known_any (A0:Option Addr) (n0 k0:Nat) (A1:Option Addr) (n1 k1:Nat) (A2:Option Addr) (n2 k2:Nat) (x:Nrm) (C:Option Addr) (n a:Nat) (B:Option Addr) (m b:Nat) (c:Col) (D:Option Addr) (dn dk:Nat) (t:List Int) (w:World) (hN:NrmAt w A0 n0 A1 n1 A2 n2 x) (hz:NrmSz x) (hL:Laid w) (hC:ColAt w C n B m c) (hcz:ColSz c) (hD:Ints w D t) (hn:t.length=dn) (hbig:dn≤16384) (hio:∀z ∈ t,iok z) :
  Calls Tryz.prog 35 #[.agg #[.slice A0 n0 k0,.slice A1 n1 k1,.slice A2 n2 k2],colV C n a B m b c,.slice D dn dk] w (RetBool (knwN x c t) w):=by
 subst hn
 have B0:Below w.heap.size w ((w.alloc (.cells #[.slice A0 n0 k0,.slice A1 n1 k1,.slice A2 n2 k2] 28)).alloc (.cells #[.slice C n a,.slice B m b,.int .i64 c.base,.int .i64 c.second,.int .i64 c.third] 32)):=((Below.refl _ _).alloc (Nat.le_refl _) _).alloc (by simp) _
 have X0:Box ((w.alloc (.cells #[.slice A0 n0 k0,.slice A1 n1 k1,.slice A2 n2 k2] 28)).alloc (.cells #[.slice C n a,.slice B m b,.int .i64 c.base,.int .i64 c.second,.int .i64 c.third] 32)) w.heap.size 28 [.slice A0 n0 k0,.slice A1 n1 k1,.slice A2 n2 k2]:=(Box.new w 28 [.slice A0 n0 k0,.slice A1 n1 k1,.slice A2 n2 k2] rfl).below (B:=w.heap.size+1) ((Below.refl _ _).alloc (by simp) _) (by omega)
 have X1:Box ((w.alloc (.cells #[.slice A0 n0 k0,.slice A1 n1 k1,.slice A2 n2 k2] 28)).alloc (.cells #[.slice C n a,.slice B m b,.int .i64 c.base,.int .i64 c.second,.int .i64 c.third] 32)) (w.heap.size+1) 32 [.slice C n a,.slice B m b,.int .i64 c.base,.int .i64 c.second,.int .i64 c.third]:=Box.new _ _ _ (by simp)
 have W0E:∃W0,((w.alloc (.cells #[.slice A0 n0 k0,.slice A1 n1 k1,.slice A2 n2 k2] 28)).alloc (.cells #[.slice C n a,.slice B m b,.int .i64 c.base,.int .i64 c.second,.int .i64 c.third] 32))=W0:=⟨_,rfl⟩
 have hxi:=dtx_iok (x:=x) false hio
 have hxl:=dtx_len x false t
 have HE:=Lib.hid (show knwN x c t=Mtc.known (cls (usN x).cls) (lastE (colD c).ents) (dtx x false t) from rfl)
 have MC:=Lib.hid (fun W (hb:Below w.heap.size w W)=>made_any C n a B m b c W (hC.below hb) hcz)
 have WC:=Lib.hid (fun W T (hb:Below w.heap.size w W) hT0 hT=>with_any A0 n0 k0 A1 n1 k1 A2 n2 k2 x T (colD c) w W hN hz hL hb hT0 hT)
 have DC:=Lib.hid (fun W (hb:Below w.heap.size w W)=>dText_own A0 n0 k0 A1 n1 k1 A2 n2 k2 x D t.length dk t false W (hN.below hb) hz (hL.below hb) (hD.below hb) rfl hbig hio)
 have hcv:=colD_ok c
 have hce:=valid_ents hcv
 have hcb:=(col_grps hcv).2
 have hcs:=hz.us.z0
 have hca:=usN_asc x
 clear hN hz hL hC hcz hD hio hcv
 generalize knwN x c t=kn at *
 generalize dtx x false t=d at *
 generalize (usN x).cls=cs at *
 unfold colV at *
 go_enter Tryz.func35,Tryz.ntmps35
 go_wp2_with fail
 obtain ⟨W0,hW0⟩:=W0E
 try rw [hW0] at B0 X0 X1 ⊢
 clear hW0
 have p00:=X0.cell (i:=0) rfl
 have p01:=X0.cell (i:=1) rfl
 have p02:=X0.cell (i:=2) rfl
 have p10:=X1.cell (i:=0) rfl
 have p11:=X1.cell (i:=1) rfl
 have p12:=X1.cell (i:=2) rfl
 have p13:=X1.cell (i:=3) rfl
 have p14:=X1.cell (i:=4) rfl
 have l0:=X0.lt
 have l1:=X1.lt
 have SH:=Lib.hid (fun W' (hb':Below W0.heap.size W0 W')=>show W'.cell? ⟨w.heap.size,0,none⟩=some (.slice A0 n0 k0)∧W'.cell? ⟨w.heap.size,1,none⟩=some (.slice A1 n1 k1)∧W'.cell? ⟨w.heap.size,2,none⟩=some (.slice A2 n2 k2)∧W'.cell? ⟨w.heap.size+1,0,none⟩=some (.slice C n a)∧W'.cell? ⟨w.heap.size+1,1,none⟩=some (.slice B m b)∧W'.cell? ⟨w.heap.size+1,2,none⟩=some (.int .i64 c.base)∧W'.cell? ⟨w.heap.size+1,3,none⟩=some (.int .i64 c.second)∧W'.cell? ⟨w.heap.size+1,4,none⟩=some (.int .i64 c.third)∧Below W0.heap.size W0 W' from ⟨(hb'.cell l0).trans p00,(hb'.cell l0).trans p01,(hb'.cell l0).trans p02,(hb'.cell l1).trans p10,(hb'.cell l1).trans p11,(hb'.cell l1).trans p12,(hb'.cell l1).trans p13,(hb'.cell l1).trans p14,hb'⟩)
 have TM:=Lib.hid (fun W (hb':Below W0.heap.size W0 W)=>(MC.out W (B0.trans (hb'.mono B0.size))).mono (R':=fun e W'=>∃v,e=.returned v∧(W'.cell? ⟨w.heap.size,0,none⟩=some (.slice A0 n0 k0)∧W'.cell? ⟨w.heap.size,1,none⟩=some (.slice A1 n1 k1)∧W'.cell? ⟨w.heap.size,2,none⟩=some (.slice A2 n2 k2)∧W'.cell? ⟨w.heap.size+1,0,none⟩=some (.slice C n a)∧W'.cell? ⟨w.heap.size+1,1,none⟩=some (.slice B m b)∧W'.cell? ⟨w.heap.size+1,2,none⟩=some (.int .i64 c.base)∧W'.cell? ⟨w.heap.size+1,3,none⟩=some (.int .i64 c.second)∧W'.cell? ⟨w.heap.size+1,4,none⟩=some (.int .i64 c.third)∧Below W0.heap.size W0 W')∧(∃T,v=.pointer (some ⟨T,0,none⟩)∧W.heap.size≤T∧TabAt W' T (colD c) (.slice none 0 0) 0)) (fun e W' ⟨T,he,g1,g2,g3⟩=>⟨_,he,SH.out W' (hb'.trans (g3.mono hb'.size)),T,rfl,g1,g2⟩))
 clear p00 p01 p02 p10 p11 p12 p13 p14
 refine wp_region_held_drew (S:=fun W'=>W'.cell? ⟨w.heap.size,0,none⟩=some (.slice A0 n0 k0)∧W'.cell? ⟨w.heap.size,1,none⟩=some (.slice A1 n1 k1)∧W'.cell? ⟨w.heap.size,2,none⟩=some (.slice A2 n2 k2)∧W'.cell? ⟨w.heap.size+1,0,none⟩=some (.slice C n a)∧W'.cell? ⟨w.heap.size+1,1,none⟩=some (.slice B m b)∧W'.cell? ⟨w.heap.size+1,2,none⟩=some (.int .i64 c.base)∧W'.cell? ⟨w.heap.size+1,3,none⟩=some (.int .i64 c.second)∧W'.cell? ⟨w.heap.size+1,4,none⟩=some (.int .i64 c.third)∧Below W0.heap.size W0 W') (by kernel_rfl) (SH.out _ ((Below.refl _ _).drew)) (fun hHeld=>?_)
 refine tK 0 12 ?_
 refine tK 2 14 ?_
 refine qE 1 13 (TM.out _ hHeld.2.2.2.2.2.2.2.2) ?_
 clear hHeld
 rintro _ W1 hHeld ⟨T,rfl,hT0,hTab⟩
 have TW:=Lib.hid ((WC.out W1 T (B0.trans (hHeld.2.2.2.2.2.2.2.2.mono B0.size)) (by have:=B0.size;have:W0.heap.size≤T:=hT0;omega) hTab).mono (R':=fun e W'=>∃v,e=.returned v∧(W'.cell? ⟨w.heap.size,0,none⟩=some (.slice A0 n0 k0)∧W'.cell? ⟨w.heap.size,1,none⟩=some (.slice A1 n1 k1)∧W'.cell? ⟨w.heap.size,2,none⟩=some (.slice A2 n2 k2)∧W'.cell? ⟨w.heap.size+1,0,none⟩=some (.slice C n a)∧W'.cell? ⟨w.heap.size+1,1,none⟩=some (.slice B m b)∧W'.cell? ⟨w.heap.size+1,2,none⟩=some (.int .i64 c.base)∧W'.cell? ⟨w.heap.size+1,3,none⟩=some (.int .i64 c.second)∧W'.cell? ⟨w.heap.size+1,4,none⟩=some (.int .i64 c.third)∧Below W0.heap.size W0 W')∧(v=.pointer (some ⟨T,0,none⟩)∧(∃A k,TabAt W' T (colD c) (.slice A cs.length k) (topS cs)∧Spans W' A cs))) (fun e W' ⟨he,h2,h3⟩=>⟨_,he,SH.out W' (hHeld.2.2.2.2.2.2.2.2.trans (below_of_grown h3 (show W0.heap.size≤T from hT0) hHeld.2.2.2.2.2.2.2.2.size)),rfl,h2⟩))
 refine qE 3 15 (TW.out) ?_
 clear hHeld
 rintro _ W2 hHeld ⟨rfl,AX,kX,hTab2,hSp2⟩
 refine tK 4 7 ?_
 refine wpAnyH_done (by kernel_rfl) ?_ _
 have hb2:=hHeld.2.2.2.2.2.2.2.2
 have hbw2:=B0.trans (hb2.mono B0.size)
 have q00:=hHeld.1
 have q01:=hHeld.2.1
 have q02:=hHeld.2.2.1
 have HT:=Lib.hid hTab2
 have HS:=Lib.hid hSp2
 have KD:=Lib.hid (DC.out W2 hbw2)
 have hbd:=hbw2.size
 clear hHeld SH TM TW WC MC hTab hTab2 hSp2 DC
 go_wp2_with fail
 with_reducible refine KD.out.mono ?_
 rintro e W3 ⟨E0,d0,rfl,hown,hb3⟩
 have HM:=Lib.hid (show ∀b,W2.heap.size≤b→MCtx T (colD c) cs AX kX b W2 from fun b hb=>⟨HT.out,HS.out,hb,hca,by omega,hce,⟨hcb.1,hcb.2.1⟩⟩)
 obtain ⟨bq,hbq,HBQ⟩:∃bq,W2.heap.size≤bq∧∀g o,E0=some ⟨g,o,none⟩→g=bq:=by
  cases E0 with
  | none=>exact ⟨_,Nat.le_refl _,fun g o h=>by cases h⟩
  | some ad=>
   rcases hown.2 with ⟨hv,_⟩ | ⟨g,cp,cur,hv,h1,_⟩
   ·cases hv
   ·injection hv with hv
    injection hv with hv
    subst hv
    exact ⟨g,h1,fun g' o h=>by injection h with h;injection h with h1 h2;exact h1.symm⟩
 have HF:=Lib.hid (KL.first (cl:=cls cs) (ent:=lastE (colD c).ents) hown rfl hxi HBQ)
 rw [←HE.out] at HF
 have MT:=Lib.hid (HM.out bq hbq)
 clear HM HBQ hown KD q00 q01 q02 HT HS
 go_wp2_with fail
 go_loopw [8] (fun v wr=>∃(t':List Int) (A':Option Addr) (cap':Nat),v=.slice A' t'.length cap'∧KL (cls cs) (lastE (colD c).ents) kn d.length bq W3 t' A' cap' wr) (fun v _=>slLen v)
 case atStart=>exact ⟨d,E0,d0,rfl,HF.out⟩
 case round=>
  obtain ⟨t',A',cap',rfl,hel⟩:=hrel
  have HL:=Lib.hid hel
  have HGR:=Lib.hid hel.gr
  have hcp:=hel.cp
  have hcm:=hel.cm
  have hbd2:=hel.bd
  have hwsz:=hel.gr.size
  have hwr:Below W2.heap.size W2 wr:=hb3.trans (below_of_grown hel.gr hbq hb3.size)
  by_cases hne:t'=[]
  ·have hes:=hel.eq
   rw [hne] at hes
   have hlt:t'.length=0:=by rw [hne];rfl
   have hbb:=hbw2.trans (hwr.mono hbw2.size)
   clear hel HL
   subst hne
   subst hes
   go_wp2_with fail
   go_ret
   exact ⟨rfl,hbb⟩
  ·have hpos:=List.length_pos_iff.2 hne
   obtain ⟨hbl,off,pre,post,rfl,hrow⟩:=hel.row hne
   have TC:=Lib.hid (tmatch_any T (colD c) cs AX kX bq off cap' pre post t' W2 wr MT.out hwr hrow hne (by omega) hcp hcm hel.io)
   have ML:=Mtc.matched_len (cl:=cls cs) (ent:=lastE (colD c).ents) hne
   have NO:=Lib.hid (fun hm=>hel.no hne hm)
   have NX:=Lib.hid (fun (W':World) (off:Nat) (pre post:List Value) hm hg hrow=>HL.out.next hne hm (off:=off) (pre:=pre) (post:=post) (W':=W') hg hrow)
   unfold RetMatch RetMt at TC
   have hlt:decide ((0:Int) < (t'.length:Int))=true:=by simpa using hpos
   clear hel HL hrow
   generalize hmt:Mtc.matched (cls cs) (lastE (colD c).ents) t'=mt at *
   clear hmt
   generalize hpt:Mtc.ofPart (lastE (colD c).ents) (impE (colD c)) mt.1 mt.2.2=pt at *
   clear hpt
   obtain ⟨m1,m2,mk⟩:=mt
   dsimp only at *
   have hcut:=fun (W:World)=>run_cutFrom (some ⟨bq,off,none⟩) t'.length cap' m1.length (by omega) W
   go_wp2_with fail
   with_reducible refine TC.out.mono ?_
   rintro e W4 ⟨E4,d4,rfl,hE4,hrow4,hg4⟩
   have hwr4:=hbw2.trans (((hb3.trans (below_of_grown (grownR_trans (show W3.grownBy wr (some bq) from HGR.out) hg4) hbq hb3.size))).mono hbw2.size)
   cases mk with
   | false=>
    have hkn:=NO.out rfl
    subst hkn
    clear NX NO TC hE4 hrow4
    go_wp2_with fail
    go_ret
    exact ⟨rfl,hwr4⟩
   | true=>
    have HL5:=Lib.hid (NX.out W4 off pre post rfl hg4 ⟨rfl,hrow4⟩)
    clear hE4 hrow4 hg4 NX NO TC hwr4
    go_wp2_with fail
    go_roundw
    case rel=>exact ⟨m2,_,_,by rw [show t'.length - m1.length=m2.length by omega],HL5.out⟩
    case measure=>simp [slLen];omega
end Go.Proofs.YtkhmjidaeliccaaGreatDoor
namespace Go.Proofs.YtkhmjidaeliccaaGreatDoor.Pk
open Go.RowKit
theorem cmp_neg:∀u v:List Int,cmpL u v=-cmpL v u
 | [],[]=>rfl
 | [],_::_=>rfl
 | _::_,[]=>rfl
 | a::u,b::v=>by
  unfold cmpL
  by_cases h:a < b
  ·rw [if_pos h,if_neg (by omega),if_pos h]
  ·rw [if_neg h]
   by_cases h2:b < a
   ·rw [if_pos h2,if_pos h2];rfl
   ·rw [if_neg h2,if_neg h2,if_neg h,cmp_neg u v]
def fst (u:List Int):Int:=u.head?.getD 0
def low (m:Int) (q:Nat):List Int:=if q=0 then [] else [m+q - 1]
def high (m:Int) (q:Nat):List Int:=if q=0 then [] else [m+15 - q]
def pk (m:Int):Nat→List Int→List Int
 | q,[]=>low m q
 | q,x::r=>if x=m then (if q=7 then (m+7)::pk m 0 r else pk m (q+1) r) else if x < m then low m q++x::pk m 0 r else high m q++(x+14)::pk m 0 r
section
variable {m:Int}
end
def b4 (x:Int):List Int:=[x / 16777216,x / 65536 % 256,x / 256 % 256,x % 256]
def vb (x:Int):List Int:=if x < 64 then [x] else if x < 16384 then [64+x / 256,x % 256] else [128,x / 65536,x / 256 % 256,x % 256]
end Go.Proofs.YtkhmjidaeliccaaGreatDoor.Pk
