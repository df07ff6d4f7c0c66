/- Texts that are merged into one file: TElems, SkKey, TlCopy, TlPlain. -/
import Derived.Test.YtkhmjidaeliccaaGreatDoorB01
import Derived.Test.YtkhmjidaeliccaaGreatDoorB02
import Derived.Test.YtkhmjidaeliccaaGreatDoorB03
import Derived.Test.YtkhmjidaeliccaaGreatDoorB12
import Derived.Test.YtkhmjidaeliccaaGreatDoorB13
import Derived.Test.YtkhmjidaeliccaaGreatDoorB15
import Derived.Test.YtkhmjidaeliccaaGreatDoorB16
import Derived.Deep.Cut
set_option maxRecDepth 100000
set_option maxHeartbeats 51200000
namespace Go.Proofs.YtkhmjidaeliccaaGreatDoor
open Go.RowKit Go.Maps Go.WideMaps
def slLen:Value→Nat
 | .slice _ n _=>n
 | _=>0
def elsN (x:Nrm) (c:Col) (t:List Int):List Elt:=Mtc.elems (cls (usN x).cls) (lastE (colD c).ents) (impE (colD c)) (dtx x false t)
structure EL (cl:Int→Int) (ent:List Int→Option (List Elt)) (imp:Int→List Elt) (els:List Elt) (tot:Nat) (b:Nat) (w1:World) (t:List Int) (A:Option Addr) (cap:Nat) (E:Option Addr) (k:Nat) (es:List Elt) (W:World):Prop where
 eq:es++Mtc.elems cl ent imp t=els
 own:W.ownsRow w1.heap.size 77 4 (.slice E es.length k) es.length (flatK Elt.cells es)
 gr:w1.grownBy W (some b)
 bd:es.length+16*t.length≤16*tot
 cp:t.length≤cap
 cm:cap≤9223372036854775807
 row:t≠[]→b < w1.heap.size∧∃off pre post,A=some ⟨b,off,none⟩∧Row W b off 3 pre post t
 io:∀z ∈ t,iok z
section
variable {cl:Int→Int} {ent:List Int→Option (List Elt)} {imp:Int→List Elt} {els:List Elt} {tot b:Nat} {w1:World} {t:List Int} {A:Option Addr} {cap:Nat} {E:Option Addr} {k:Nat} {es:List Elt} {W:World}
theorem EL.own_match (h:EL cl ent imp els tot b w1 t A cap E k es W) (ht:t≠[]) {W':World} (hg:W.grownBy W' (some b)):W'.ownsRow w1.heap.size 77 4 (.slice E es.length k) es.length (flatK Elt.cells es):=by
 refine h.own.kept hg ?_
 cases E with
 | none=>exact .inl rfl
 | some a=>
  right
  intro e
  have e':a.block=b:=by injection e
  rcases h.own.2 with ⟨hv,_⟩ | ⟨g,cp,cur,hv,h1,_⟩
  ·cases hv
  ·injection hv with hv
   injection hv with hv
   subst hv
   have:=(h.row ht).1
   dsimp only at e'
   omega
theorem EL.next (h:EL cl ent imp els tot b w1 t A cap E k es W) (ht:t≠[]) {off:Nat} {pre post:List Value} {W' W2:World} (hg:W.grownBy W' (some b)) (hp:(Mtc.ofPart ent imp (Mtc.matched cl ent t).1 (Mtc.matched cl ent t).2.2).length≤16) (hrow:A=some ⟨b,off,none⟩∧Row W' b off 3 pre post ((Mtc.matched cl ent t).1++(Mtc.matched cl ent t).2.1))
  {E':Option Addr} {k':Nat} (ho:W2.ownsRow w1.heap.size 77 4 (.slice E' (es.length+(Mtc.ofPart ent imp (Mtc.matched cl ent t).1 (Mtc.matched cl ent t).2.2).length) k') (es.length+(Mtc.ofPart ent imp (Mtc.matched cl ent t).1 (Mtc.matched cl ent t).2.2).length) (flatK Elt.cells es++flatK Elt.cells (Mtc.ofPart ent imp (Mtc.matched cl ent t).1 (Mtc.matched cl ent t).2.2))) (hb:Below w1.heap.size W' W2) :
  EL cl ent imp els tot b w1 (Mtc.matched cl ent t).2.1 (subA A cap (Mtc.matched cl ent t).1.length) (cap - (Mtc.matched cl ent t).1.length) E' k' (es++Mtc.ofPart ent imp (Mtc.matched cl ent t).1 (Mtc.matched cl ent t).2.2) W2:=by
 obtain ⟨hl1,hl2⟩:=Mtc.matched_len (cl:=cl) (ent:=ent) ht
 obtain ⟨hA,hrow⟩:=hrow
 have hcp:=h.cp
 have hcm:=h.cm
 have hbd:=h.bd
 have hmem:=Mtc.matched_mem (cl:=cl) (ent:=ent) (t:=t)
 have heq:=h.eq
 rw [Mtc.elems_step ht,←List.append_assoc] at heq
 have hbl:=(h.row ht).1
 have hio:=h.io
 have hgr:=h.gr
 generalize Mtc.matched cl ent t=mt at *
 generalize Mtc.ofPart ent imp mt.1 mt.2.2=l at *
 refine ⟨heq,by rw [List.length_append,flatK_append];exact ho,grown_belowB (grownR_trans hgr hg) hb (Nat.le_refl _),by rw [List.length_append];omega,by omega,by omega,fun hne=>⟨hbl,off+mt.1.length,pre++mt.1.map (Value.int .i64),post,?_,?_⟩,fun z hz=>hio z ((hmem z).1 (by simp [hz]))⟩
 ·have:=List.length_pos_iff.2 hne
  unfold subA
  rw [if_neg (by omega),hA,Option.map_some,Addr.add_lit]
 ·refine ⟨by rw [List.length_append,List.length_map,hrow.1],?_⟩
  have h2:=(hrow.keep (hb.block b hbl)).2
  unfold Blk at h2 ⊢
  rw [h2,List.map_append]
  simp only [List.append_assoc]
theorem EL.first {d:List Int} {n:Nat} {wb:World} (hA:w1.ownsRow wb.heap.size 3 1 (.slice A n cap) n (d.map (Value.int .i64))) (hn:d.length=n) (hio:∀z ∈ d,iok z) (hb:∀g o,A=some ⟨g,o,none⟩→g=b):EL cl ent imp (Mtc.elems cl ent imp d) d.length b w1 d A cap none 0 [] w1:=by
 refine ⟨rfl,World.ownsRow_nil _ _ _ _,grownR_refl _ _,by simp,?_,?_,fun hne=>?_,hio⟩
 ·obtain ⟨_,_,hv,hc⟩:=own_form hA
  injection hv with _ _ hv
  subst hv
  omega
 ·rcases hA.2 with ⟨hv,_⟩ | ⟨g,cp,cur,hv,_,_,_,h5,_⟩
  ·injection hv with _ _ hv
   omega
  ·injection hv with _ _ hv
   unfold maxLen at h5
   omega
 ·have hpos:=List.length_pos_iff.2 hne
  obtain ⟨g,post,rfl,h1,h2,h3,h4,h5⟩:=own_row hA (by omega)
  obtain rfl:=hb g 0 rfl
  exact ⟨h2.lt,0,[],post,rfl,h2⟩
end
theorem part_len {c:Col} (h:colErr c=0) (p:List Int) (q:Bool):(Mtc.ofPart (lastE c.ents) (impE c) p q).length≤16:=by
 unfold Mtc.ofPart
 split
 ·exact last_len h p
 ·unfold impE
  split <;> simp
theorem elems_own (A0:Option Addr) (n0 k0:Nat) (A1:Option Addr) (n1 k1:Nat) (A2:Option Addr) (n2 k2:Nat) (x:Nrm) (C:Option Addr) (n a:Nat) (B:Option Addr) (m b:Nat) (c:Col) (D:Option Addr) (dn dk:Nat) (t:List Int) (w:World) (hN:NrmAt w A0 n0 A1 n1 A2 n2 x) (hz:NrmSz x) (hL:Laid w) (hC:ColAt w C n B m c) (hcz:ColSz c) (hD:Ints w D t) (hn:t.length=dn) (hbig:dn≤16384) (hio:∀z ∈ t,iok z) :
  Calls Tryz.prog 22 #[.agg #[.slice A0 n0 k0,.slice A1 n1 k1,.slice A2 n2 k2],colV C n a B m b c,.slice D dn dk] w (RetOwnE (elsN x c t) w):=by
 subst hn
 have B0:Below w.heap.size w ((w.alloc (.cells #[.slice A0 n0 k0,.slice A1 n1 k1,.slice A2 n2 k2] 28)).alloc (.cells #[.slice C n a,.slice B m b,.int .i64 c.base,.int .i64 c.second,.int .i64 c.third] 32)):=((Below.refl _ _).alloc (Nat.le_refl _) _).alloc (by simp) _
 have X0:Box ((w.alloc (.cells #[.slice A0 n0 k0,.slice A1 n1 k1,.slice A2 n2 k2] 28)).alloc (.cells #[.slice C n a,.slice B m b,.int .i64 c.base,.int .i64 c.second,.int .i64 c.third] 32)) w.heap.size 28 [.slice A0 n0 k0,.slice A1 n1 k1,.slice A2 n2 k2]:=(Box.new w 28 [.slice A0 n0 k0,.slice A1 n1 k1,.slice A2 n2 k2] rfl).below (B:=w.heap.size+1) ((Below.refl _ _).alloc (by simp) _) (by omega)
 have X1:Box ((w.alloc (.cells #[.slice A0 n0 k0,.slice A1 n1 k1,.slice A2 n2 k2] 28)).alloc (.cells #[.slice C n a,.slice B m b,.int .i64 c.base,.int .i64 c.second,.int .i64 c.third] 32)) (w.heap.size+1) 32 [.slice C n a,.slice B m b,.int .i64 c.base,.int .i64 c.second,.int .i64 c.third]:=Box.new _ _ _ (by simp)
 have W0E:∃W0,((w.alloc (.cells #[.slice A0 n0 k0,.slice A1 n1 k1,.slice A2 n2 k2] 28)).alloc (.cells #[.slice C n a,.slice B m b,.int .i64 c.base,.int .i64 c.second,.int .i64 c.third] 32))=W0:=⟨_,rfl⟩
 have hxi:=dtx_iok (x:=x) false hio
 have hxl:=dtx_len x false t
 have HE:=Lib.hid (show elsN x c t=Mtc.elems (cls (usN x).cls) (lastE (colD c).ents) (impE (colD c)) (dtx x false t) from rfl)
 have MC:=Lib.hid (fun W (hb:Below w.heap.size w W)=>made_any C n a B m b c W (hC.below hb) hcz)
 have WC:=Lib.hid (fun W T (hb:Below w.heap.size w W) hT0 hT=>with_any A0 n0 k0 A1 n1 k1 A2 n2 k2 x T (colD c) w W hN hz hL hb hT0 hT)
 have DC:=Lib.hid (fun W (hb:Below w.heap.size w W)=>dText_own A0 n0 k0 A1 n1 k1 A2 n2 k2 x D t.length dk t false W (hN.below hb) hz (hL.below hb) (hD.below hb) rfl hbig hio)
 have hcv:=colD_ok c
 have PL:=Lib.hid (part_len hcv)
 have hce:=valid_ents hcv
 have hcb:=(col_grps hcv).2
 have hcs:=hz.us.z0
 have hca:=usN_asc x
 clear hN hz hL hC hcz hD hio hcv
 generalize elsN x c t=els at *
 generalize dtx x false t=d at *
 generalize (usN x).cls=cs at *
 unfold colV at *
 go_enter Tryz.func22,Tryz.ntmps22
 go_wp2_with fail
 obtain ⟨W0,hW0⟩:=W0E
 try rw [hW0] at B0 X0 X1 ⊢
 clear hW0
 have p00:=X0.cell (i:=0) rfl
 have p01:=X0.cell (i:=1) rfl
 have p02:=X0.cell (i:=2) rfl
 have p10:=X1.cell (i:=0) rfl
 have p11:=X1.cell (i:=1) rfl
 have p12:=X1.cell (i:=2) rfl
 have p13:=X1.cell (i:=3) rfl
 have p14:=X1.cell (i:=4) rfl
 have l0:=X0.lt
 have l1:=X1.lt
 have SH:=Lib.hid (fun W' (hb':Below W0.heap.size W0 W')=>show W'.cell? ⟨w.heap.size,0,none⟩=some (.slice A0 n0 k0)∧W'.cell? ⟨w.heap.size,1,none⟩=some (.slice A1 n1 k1)∧W'.cell? ⟨w.heap.size,2,none⟩=some (.slice A2 n2 k2)∧W'.cell? ⟨w.heap.size+1,0,none⟩=some (.slice C n a)∧W'.cell? ⟨w.heap.size+1,1,none⟩=some (.slice B m b)∧W'.cell? ⟨w.heap.size+1,2,none⟩=some (.int .i64 c.base)∧W'.cell? ⟨w.heap.size+1,3,none⟩=some (.int .i64 c.second)∧W'.cell? ⟨w.heap.size+1,4,none⟩=some (.int .i64 c.third)∧Below W0.heap.size W0 W' from ⟨(hb'.cell l0).trans p00,(hb'.cell l0).trans p01,(hb'.cell l0).trans p02,(hb'.cell l1).trans p10,(hb'.cell l1).trans p11,(hb'.cell l1).trans p12,(hb'.cell l1).trans p13,(hb'.cell l1).trans p14,hb'⟩)
 have TM:=Lib.hid (fun W (hb':Below W0.heap.size W0 W)=>(MC.out W (B0.trans (hb'.mono B0.size))).mono (R':=fun e W'=>∃v,e=.returned v∧(W'.cell? ⟨w.heap.size,0,none⟩=some (.slice A0 n0 k0)∧W'.cell? ⟨w.heap.size,1,none⟩=some (.slice A1 n1 k1)∧W'.cell? ⟨w.heap.size,2,none⟩=some (.slice A2 n2 k2)∧W'.cell? ⟨w.heap.size+1,0,none⟩=some (.slice C n a)∧W'.cell? ⟨w.heap.size+1,1,none⟩=some (.slice B m b)∧W'.cell? ⟨w.heap.size+1,2,none⟩=some (.int .i64 c.base)∧W'.cell? ⟨w.heap.size+1,3,none⟩=some (.int .i64 c.second)∧W'.cell? ⟨w.heap.size+1,4,none⟩=some (.int .i64 c.third)∧Below W0.heap.size W0 W')∧(∃T,v=.pointer (some ⟨T,0,none⟩)∧W.heap.size≤T∧TabAt W' T (colD c) (.slice none 0 0) 0)) (fun e W' ⟨T,he,g1,g2,g3⟩=>⟨_,he,SH.out W' (hb'.trans (g3.mono hb'.size)),T,rfl,g1,g2⟩))
 clear p00 p01 p02 p10 p11 p12 p13 p14
 refine wp_region_held_drew (S:=fun W'=>W'.cell? ⟨w.heap.size,0,none⟩=some (.slice A0 n0 k0)∧W'.cell? ⟨w.heap.size,1,none⟩=some (.slice A1 n1 k1)∧W'.cell? ⟨w.heap.size,2,none⟩=some (.slice A2 n2 k2)∧W'.cell? ⟨w.heap.size+1,0,none⟩=some (.slice C n a)∧W'.cell? ⟨w.heap.size+1,1,none⟩=some (.slice B m b)∧W'.cell? ⟨w.heap.size+1,2,none⟩=some (.int .i64 c.base)∧W'.cell? ⟨w.heap.size+1,3,none⟩=some (.int .i64 c.second)∧W'.cell? ⟨w.heap.size+1,4,none⟩=some (.int .i64 c.third)∧Below W0.heap.size W0 W') (by kernel_rfl) (SH.out _ ((Below.refl _ _).drew)) (fun hHeld=>?_)
 refine tK 0 13 ?_
 refine tK 2 15 ?_
 refine qE 1 14 (TM.out _ hHeld.2.2.2.2.2.2.2.2) ?_
 clear hHeld
 rintro _ W1 hHeld ⟨T,rfl,hT0,hTab⟩
 have TW:=Lib.hid ((WC.out W1 T (B0.trans (hHeld.2.2.2.2.2.2.2.2.mono B0.size)) (by have:=B0.size;have:W0.heap.size≤T:=hT0;omega) hTab).mono (R':=fun e W'=>∃v,e=.returned v∧(W'.cell? ⟨w.heap.size,0,none⟩=some (.slice A0 n0 k0)∧W'.cell? ⟨w.heap.size,1,none⟩=some (.slice A1 n1 k1)∧W'.cell? ⟨w.heap.size,2,none⟩=some (.slice A2 n2 k2)∧W'.cell? ⟨w.heap.size+1,0,none⟩=some (.slice C n a)∧W'.cell? ⟨w.heap.size+1,1,none⟩=some (.slice B m b)∧W'.cell? ⟨w.heap.size+1,2,none⟩=some (.int .i64 c.base)∧W'.cell? ⟨w.heap.size+1,3,none⟩=some (.int .i64 c.second)∧W'.cell? ⟨w.heap.size+1,4,none⟩=some (.int .i64 c.third)∧Below W0.heap.size W0 W')∧(v=.pointer (some ⟨T,0,none⟩)∧(∃A k,TabAt W' T (colD c) (.slice A cs.length k) (topS cs)∧Spans W' A cs))) (fun e W' ⟨he,h2,h3⟩=>⟨_,he,SH.out W' (hHeld.2.2.2.2.2.2.2.2.trans (below_of_grown h3 (show W0.heap.size≤T from hT0) hHeld.2.2.2.2.2.2.2.2.size)),rfl,h2⟩))
 refine qE 3 16 (TW.out) ?_
 clear hHeld
 rintro _ W2 hHeld ⟨rfl,AX,kX,hTab2,hSp2⟩
 refine tK 4 7 ?_
 refine wpAnyH_done (by kernel_rfl) ?_ _
 have hb2:=hHeld.2.2.2.2.2.2.2.2
 have hbw2:=B0.trans (hb2.mono B0.size)
 have q00:=hHeld.1
 have q01:=hHeld.2.1
 have q02:=hHeld.2.2.1
 have HT:=Lib.hid hTab2
 have HS:=Lib.hid hSp2
 have KD:=Lib.hid (DC.out W2 hbw2)
 have hbd:=hbw2.size
 clear hHeld SH TM TW WC MC hTab hTab2 hSp2 DC
 go_wp2_with fail
 with_reducible refine KD.out.mono ?_
 rintro e W3 ⟨E0,d0,rfl,hown,hb3⟩
 have HM:=Lib.hid (show ∀b,W2.heap.size≤b→MCtx T (colD c) cs AX kX b W2 from fun b hb=>⟨HT.out,HS.out,hb,hca,by omega,hce,⟨hcb.1,hcb.2.1⟩⟩)
 obtain ⟨bq,hbq,HBQ⟩:∃bq,W2.heap.size≤bq∧∀g o,E0=some ⟨g,o,none⟩→g=bq:=by
  cases E0 with
  | none=>exact ⟨_,Nat.le_refl _,fun g o h=>by cases h⟩
  | some ad=>
   rcases hown.2 with ⟨hv,_⟩ | ⟨g,cp,cur,hv,h1,_⟩
   ·cases hv
   ·injection hv with hv
    injection hv with hv
    subst hv
    exact ⟨g,h1,fun g' o h=>by injection h with h;injection h with h1 h2;exact h1.symm⟩
 have HF:=Lib.hid (EL.first (cl:=cls cs) (ent:=lastE (colD c).ents) (imp:=impE (colD c)) hown rfl hxi HBQ)
 rw [←HE.out] at HF
 have MT:=Lib.hid (HM.out bq hbq)
 clear HM HBQ hown KD q00 q01 q02 HT HS
 go_wp2_with fail
 go_loopw [8,9] (fun u v wr=>∃(t':List Int) (A':Option Addr) (cap':Nat) (E':Option Addr) (k':Nat) (es:List Elt),u=.slice E' es.length k'∧v=.slice A' t'.length cap'∧EL (cls cs) (lastE (colD c).ents) (impE (colD c)) els d.length bq W3 t' A' cap' E' k' es wr) (fun _ v _=>slLen v)
 case atStart=>exact ⟨d,E0,d0,none,0,[],rfl,rfl,HF.out⟩
 case round=>
  obtain ⟨t',A',cap',E',k',es,rfl,rfl,hel⟩:=hrel
  have HL:=Lib.hid hel
  have hcp:=hel.cp
  have hcm:=hel.cm
  have hbd2:=hel.bd
  have hwsz:=hel.gr.size
  have hwr:Below W2.heap.size W2 wr:=hb3.trans (below_of_grown hel.gr hbq hb3.size)
  by_cases hne:t'=[]
  ·have hes:=hel.eq
   rw [hne,Mtc.elems_nil,List.append_nil] at hes
   have hlt:t'.length=0:=by rw [hne];rfl
   have HO:=Lib.hid hel.own
   have hbb:=hbw2.trans (hwr.mono hbw2.size)
   have h3:=hb3.size
   clear hel HL
   subst hne
   subst hes
   go_wp2_with fail
   go_ret
   exact ⟨E',k',rfl,own_mono HO.out (by omega),hbb⟩
  ·have hpos:=List.length_pos_iff.2 hne
   obtain ⟨hbl,off,pre,post,rfl,hrow⟩:=hel.row hne
   have TC:=Lib.hid (tmatch_any T (colD c) cs AX kX bq off cap' pre post t' W2 wr MT.out hwr hrow hne (by omega) hcp hcm hel.io)
   have ML:=Mtc.matched_len (cl:=cls cs) (ent:=lastE (colD c).ents) hne
   have hpl:=PL.out (Mtc.matched (cls cs) (lastE (colD c).ents) t').1 (Mtc.matched (cls cs) (lastE (colD c).ents) t').2.2
   have OM:=Lib.hid (fun W' hg=>hel.own_match hne (W':=W') hg)
   have NX:=Lib.hid (fun (W' W2:World) (off:Nat) (pre post:List Value) hg hrow (E2:Option Addr) (k2:Nat) ho hb=>HL.out.next hne (off:=off) (pre:=pre) (post:=post) (W':=W') (W2:=W2) hg hpl hrow (E':=E2) (k':=k2) ho hb)
   unfold RetMatch RetMt at TC
   have hlt:decide ((0:Int) < (t'.length:Int))=true:=by simpa using hpos
   clear hel HL hrow
   generalize hmt:Mtc.matched (cls cs) (lastE (colD c).ents) t'=mt at *
   clear hmt
   generalize hpt:Mtc.ofPart (lastE (colD c).ents) (impE (colD c)) mt.1 mt.2.2=pt at *
   clear hpt
   obtain ⟨m1,m2,mk⟩:=mt
   dsimp only at *
   have hcut:=fun (W:World)=>run_cutFrom (some ⟨bq,off,none⟩) t'.length cap' m1.length (by omega) W
   go_wp2_with fail
   with_reducible refine TC.out.mono ?_
   rintro e W4 ⟨E4,d4,rfl,hE4,hrow4,hg4⟩
   have HO4:=Lib.hid (OM.out W4 hg4)
   have HE4:=Lib.hid hE4
   have HN4:=Lib.hid (fun W2=>NX.out W4 W2 off pre post hg4 ⟨rfl,hrow4⟩)
   have h34:W3.heap.size≤W4.heap.size:=Nat.le_trans hwsz hg4.size
   clear hE4 hrow4 hg4 OM NX TC
   go_wp2_with (at_builtin;refine wpList_app _ _ 54 77 (.agg #[.int .i64 0,.int .i64 0,.int .i64 0,.bool false]) 4 32 rfl rfl Tryz.underlying54 info_elt rfl (by decide) (by decide) rfl HO4.out rfl HE4.out (flatK_len Elt.cells 4 (fun _=>rfl) _) (oneCell_elts _) (by omega) h34 ?_;intro B5 k5 w5 hown5 hc5 hb5 hg5 hB5)
   have HL5:=Lib.hid (HN4.out w5 B5 k5 hown5 hb5)
   clear hown5 hb5 hg5 hB5 HN4 HO4 HE4
   go_wp2_with fail
   go_roundw
   case rel=>exact ⟨m2,_,_,B5,k5,es++pt,by rw [List.length_append],by rw [show t'.length - m1.length=m2.length by omega],HL5.out⟩
   case measure=>simp [slLen];omega
end Go.Proofs.YtkhmjidaeliccaaGreatDoor
namespace Go.Proofs.YtkhmjidaeliccaaGreatDoor
open Go.RowKit Go.Maps Go.WideMaps
theorem elsF_len {cl:Int→Int} {ent:List Int→Option (List Elt)} {imp:Int→List Elt} (h:∀p q,(Mtc.ofPart ent imp p q).length≤16) (t:List Int):(Mtc.elems cl ent imp t).length≤16*t.length:=by
 refine Mtc.parts_ind cl ent (P:=fun t=>(Mtc.elems cl ent imp t).length≤16*t.length) (by simp [Mtc.elems_nil]) (fun t ht ih=>?_) t
 rw [Mtc.elems_step ht,List.length_append]
 have h1:=h (Mtc.matched cl ent t).1 (Mtc.matched cl ent t).2.2
 have h2:=(Mtc.matched_len (cl:=cl) (ent:=ent) ht).1
 omega
theorem elsN_len (x:Nrm) (c:Col) (t:List Int):(elsN x c t).length≤1024*t.length:=by
 have h1:=elsF_len (cl:=cls (usN x).cls) (part_len (colD_ok c)) (dtx x false t)
 have h2:=dtx_len x false t
 unfold elsN
 omega
structure Grw (WD W:World) (base:Nat) (K0 K:Option Addr) (k:Nat) (zs:List Int):Prop where
 own:W.ownsRow base 3 1 (.slice K zs.length k) zs.length (zs.map (Value.int .i64))
 gr:WD.grownBy W (blk K0)
 or_:K=K0∨∀q,blk K=some q→WD.heap.size≤q
theorem Grw.app {WD W W':World} {base:Nat} {K0 K B:Option Addr} {k k':Nat} {zs ys:List Int} {o:Obj} (h:Grw WD W base K0 K k zs) (ho:W'.ownsRow base 3 1 (.slice B (zs.length+ys.length) k') (zs.length+ys.length) (zs.map (Value.int .i64)++ys.map (Value.int .i64))) (hg:(W.alloc o).grownBy W' (Value.ownBlock (.slice K zs.length k))) (hB:B=K∨B=some ⟨(W.alloc o).heap.size,0,none⟩):Grw WD W' base K0 B k' (zs++ys):=by
 rw [ownBlock_blk] at hg
 have h1:=gr_alloc h.gr o
 have hz:=h1.size
 refine ⟨by rw [List.length_append,List.map_append];exact ho,?_,?_⟩
 ·rcases h.or_ with rfl | g
  ·exact grownR_trans h1 hg
  ·exact ⟨hg.os.trans h1.os,hg.tape.trans h1.tape,hg.output.trans h1.output,Nat.le_trans hz hg.size,fun q hq hne=>(hg.block q (by omega) (fun e=>by have:=g q e.symm;omega)).trans (h1.block q hq hne)⟩
 ·rcases hB with rfl | rfl
  ·exact h.or_
  ·right
   intro q hq
   have:q=(W.alloc o).heap.size:=by injection hq with hq;exact hq.symm
   omega
theorem Grw.low {WD W:World} {base:Nat} {K0 K:Option Addr} {k:Nat} {zs:List Int} (h:Grw WD W base K0 K k zs) (hb:base≤WD.heap.size) (hk:∀q,blk K0=some q→base≤q):Below base WD W:=
 ⟨h.gr.os,h.gr.tape,h.gr.output,h.gr.size,fun q hq=>h.gr.block q (by omega) (fun e=>by have:=hk q e.symm;omega)⟩
theorem Grw.ints {WD W:World} {base:Nat} {K0 K A:Option Addr} {k n c bd:Nat} {zs d:List Int} (h:Grw WD W base K0 K k zs) (hA:WD.ownsRow bd 3 1 (.slice A n c) n (d.map (Value.int .i64))) (hk:∀q,blk K0=some q→q < bd):Ints W A d:=by
 refine Sl.of_own (hA.kept h.gr ?_)
 rw [ownBlock_blk]
 cases hb:blk A with
 | none=>exact .inl rfl
 | some q=>
  right
  intro e
  have h1:=(hA.lt q (by rw [ownBlock_blk];exact hb)).1
  have h2:=hk q e.symm
  omega
end Go.Proofs.YtkhmjidaeliccaaGreatDoor
namespace Go.Proofs.YtkhmjidaeliccaaGreatDoor
open Go.RowKit Go.Maps Go.WideMaps
structure Chg (S:Nat→Prop) (w w':World):Prop where
 os:w'.os=w.os
 tape:w'.tape=w.tape
 output:w'.output=w.output
 size:w.heap.size≤w'.heap.size
 block:∀k,k < w.heap.size→¬S k→w'.heap[k]?=w.heap[k]?
theorem Chg.refl (S:Nat→Prop) (w:World):Chg S w w:=⟨rfl,rfl,rfl,Nat.le_refl _,fun _ _ _=>rfl⟩
theorem Chg.mono {S S':Nat→Prop} {w w':World} (h:Chg S w w') (hs:∀k,k < w.heap.size→S k→S' k):Chg S' w w':=⟨h.os,h.tape,h.output,h.size,fun k hk hn=>h.block k hk (fun q=>hn (hs k hk q))⟩
theorem Chg.trans {S:Nat→Prop} {a b c:World} (h:Chg S a b) (g:Chg S b c):Chg S a c:=
 ⟨g.os.trans h.os,g.tape.trans h.tape,g.output.trans h.output,Nat.le_trans h.size g.size,fun k hk hn=>(g.block k (Nat.lt_of_lt_of_le hk h.size) hn).trans (h.block k hk hn)⟩
theorem Chg.of_below {S:Nat→Prop} {w w':World} (h:Below w.heap.size w w'):Chg S w w':=⟨h.os,h.tape,h.output,h.size,fun k hk _=>h.block k hk⟩
theorem Chg.of_grown {S:Nat→Prop} {w w':World} {r:Option Nat} (h:w.grownBy w' r) (hr:∀q,r=some q→S q):Chg S w w':=⟨h.os,h.tape,h.output,h.size,fun k hk hn=>h.block k hk (fun e=>hn (hr k e.symm))⟩
theorem Chg.below {S:Nat→Prop} {w w':World} {n:Nat} (h:Chg S w w') (hn:n≤w.heap.size) (hs:∀k,S k→n≤k):Below n w w':=⟨h.os,h.tape,h.output,h.size,fun k hk=>h.block k (Nat.lt_of_lt_of_le hk hn) (fun q=>by have:=hs k q;omega)⟩
theorem Chg.sl {S:Nat→Prop} {w w':World} (h:Chg S w w') {A:Option Addr} {cs:List Value} (hA:Sl w A cs) (hn:cs≠[]→∀q,blk A=some q→¬S q):Sl w' A cs:=fun hne=>by
 obtain ⟨b,o,rfl,hc⟩:=hA hne
 have hb:b < w.heap.size:=sl_lt hA hne rfl
 refine ⟨b,o,rfl,fun j u hu=>?_⟩
 rw [World.cell?_of_block (h.block b hb (hn hne b rfl))]
 exact hc j u hu
theorem Chg.box {S:Nat→Prop} {w w':World} (h:Chg S w w') {b:Nat} {t:TypeId} {cs:List Value} (hB:Box w b t cs) (hn:¬S b):Box w' b t cs:=(h.block b hB.lt hn).trans hB
theorem grps_one (gs:List Grp):∀u ∈ flatK Grp.cells gs,u.oneCell'=true:=by
 intro u hu
 obtain ⟨g,_,hg⟩:=List.mem_flatMap.1 hu
 simp only [Grp.cells,List.mem_cons,List.not_mem_nil,or_false] at hg
 rcases hg with rfl | rfl | rfl <;> rfl
def RowE (w:World) (lo hi:Nat) (v:Value × Value) (x:Ent):Prop:=∃C c E d,v=(.slice C x.codes.length c,.slice E x.elems.length d)∧w.ownsRow lo 3 1 (.slice C x.codes.length c) x.codes.length (x.codes.map (Value.int .i64))∧w.ownsRow lo 77 4 (.slice E x.elems.length d) x.elems.length (flatK Elt.cells x.elems)∧(∀q,blk C=some q→q < hi)∧(∀q,blk E=some q→q < hi)∧(∀q,blk C=some q→blk E≠some q)
structure CpE (w:World) (base z:Nat) (B:Option Addr) (cap:Nat) (xs:List Ent) (k top:Nat):Prop where
 ex:∃(vs:List (Value × Value)) (m:Nat→Nat),vs.length=xs.length∧w.ownsRow base 75 2 (.slice B xs.length cap) xs.length (flatK enC vs)∧
  (∀i,(hi:i < xs.length)→(hv:i < vs.length)→∃C c E d,vs[i]=(.slice C xs[i].codes.length c,.slice E xs[i].elems.length d)∧IntsAp B z w C xs[i].codes∧EltsAp B z w E xs[i].elems)∧
  (∀i,i < k→m i≤m (i+1))∧m k≤top∧top≤w.heap.size∧(∀q,blk B=some q→q < m 0)∧z < m 0∧
  ∀i,i < k→(hi:i < xs.length)→(hv:i < vs.length)→RowE w (m i) (m (i+1)) vs[i] xs[i]
theorem mono_up {m:Nat→Nat} {k:Nat} (h:∀i,i < k→m i≤m (i+1)):∀i,i≤k→m 0≤m i
 | 0,_=>Nat.le_refl _
 | i+1,hi=>Nat.le_trans (mono_up h i (by omega)) (h i (by omega))
section
variable {w w':World} {base z lo hi:Nat} {B:Option Addr} {cap k top:Nat} {xs:List Ent} {v:Value × Value} {x:Ent}
theorem RowE.below (h:RowE w lo hi v x) (hb:Below w.heap.size w w'):RowE w' lo hi v x:=by
 obtain ⟨C,c,E,d,e1,e2,e3,e4⟩:=h
 exact ⟨C,c,E,d,e1,own_keep e2 hb,own_keep e3 hb,e4⟩
theorem RowE.set (h:RowE w lo hi v x) {p:Addr} (hp:p.block < lo) (u:Value):RowE (w.setCell p u) lo hi v x:=by
 obtain ⟨C,c,E,d,e1,e2,e3,e4⟩:=h
 exact ⟨C,c,E,d,e1,ownsRow_setCell_below e2 hp u,ownsRow_setCell_below e3 hp u,e4⟩
theorem EntsIn.cp (h:EntsIn w base z B cap xs) (hz:z < w.heap.size):CpE w base z B cap xs 0 w.heap.size:=by
 obtain ⟨vs,h1,h2,h3⟩:=h.ex
 exact ⟨vs,fun _=>w.heap.size,h1,h2,h3,fun i hi=>absurd hi (by omega),Nat.le_refl _,Nat.le_refl _,fun q hq=>(own_blk h2 hq).2,hz,fun i hi=>absurd hi (by omega)⟩
theorem CpE.into (h:CpE w base z B cap xs k top):EntsIn w base z B cap xs:=by
 obtain ⟨vs,m,h1,h2,h3,_⟩:=h.ex
 exact ⟨vs,h1,h2,h3⟩
theorem CpE.top_le (h:CpE w base z B cap xs k top):top≤w.heap.size:=by
 obtain ⟨vs,m,h1,h2,h3,h4,h5,h5b,_⟩:=h.ex
 exact h5b
theorem CpE.below (h:CpE w base z B cap xs k top) (hb:Below w.heap.size w w'):CpE w' base z B cap xs k top:=by
 obtain ⟨vs,m,h1,h2,h3,h4,h5,h5b,h6,h7,h8⟩:=h.ex
 refine ⟨vs,m,h1,own_keep h2 hb,fun i hi hv=>?_,h4,h5,Nat.le_trans h5b hb.size,h6,h7,fun i hk hi hv=>(h8 i hk hi hv).below hb⟩
 obtain ⟨C,c,E,d,e1,e2,e3⟩:=h3 i hi hv
 exact ⟨C,c,E,d,e1,e2.below hb,e3.below hb⟩
theorem CpE.off (h:CpE w base z B cap xs k top) (hz:z < base) (p:Addr) (hp:p.block=z) (v:Value):CpE (w.setCell p v) base z B cap xs k top:=by
 obtain ⟨vs,m,h1,h2,h3,h4,h5,h5b,h6,h7,h8⟩:=h.ex
 refine ⟨vs,m,h1,own_z h2 hz p hp v,fun i hi hv=>?_,h4,h5,by simpa using h5b,h6,h7,fun i hk hi hv=>(h8 i hk hi hv).set (by have:=mono_up h4 i (by omega);omega) v⟩
 obtain ⟨C,c,E,d,e1,e2,e3⟩:=h3 i hi hv
 exact ⟨C,c,E,d,e1,e2.stored p (.inr hp) v,e3.stored p (.inr hp) v⟩
theorem CpE.put {g:Nat} (h:CpE w base z (some ⟨g,0,none⟩) cap xs k top) (hk:k < xs.length) {C:Option Addr} {c:Nat} {E:Option Addr} {d lo:Nat} (hlo:top≤lo)
  (hC:w.ownsRow lo 3 1 (.slice C xs[k].codes.length c) xs[k].codes.length (xs[k].codes.map (Value.int .i64))) (hE:w.ownsRow lo 77 4 (.slice E xs[k].elems.length d) xs[k].elems.length (flatK Elt.cells xs[k].elems)) (hCE:∀q,blk C=some q→blk E≠some q) :
  CpE ((w.setCell ⟨g,k*2,none⟩ (.slice C xs[k].codes.length c)).setCell ⟨g,k*2+1,none⟩ (.slice E xs[k].elems.length d)) base z (some ⟨g,0,none⟩) cap xs (k+1) w.heap.size:=by
 obtain ⟨vs,m,h1,h2,h3,h4,h5,h5b,h6,h7,h8⟩:=h.ex
 have hm0:=mono_up h4 k (Nat.le_refl _)
 have hg:=h6 g rfl
 have hap:∀(A:Option Addr) (l:Nat),(∀q,blk A=some q→lo≤q)→∀q,blk A=some q→g≠q∧q≠z:=fun A l hA q hq=>by have:=hA q hq;omega
 have hpt:EntsIn ((w.setCell ⟨g,k*2,none⟩ (.slice C xs[k].codes.length c)).setCell ⟨g,k*2+1,none⟩ (.slice E xs[k].elems.length d)) base z (some ⟨g,0,none⟩) cap xs:=(EntsIn.put ⟨vs,h1,h2,h3⟩ hk (Sl.of_own hC) (fun _=>hap C 0 (fun q hq=>(own_blk hC hq).1)) (Sl.of_own hE) (fun _=>hap E 0 (fun q hq=>(own_blk hE hq).1)))
 have hzi:k < vs.length:=by omega
 have e1:∀(A:Option Addr) (n c1:Nat) (e:TypeId) (size:Nat) (cs:List Value) (l:Nat),g < l→w.ownsRow l e size (.slice A n c1) n cs→((w.setCell ⟨g,k*2,none⟩ (.slice C xs[k].codes.length c)).setCell ⟨g,k*2+1,none⟩ (.slice E xs[k].elems.length d)).ownsRow l e size (.slice A n c1) n cs:=fun A n c1 e size cs l hl ho=>ownsRow_setCell_below (ownsRow_setCell_below ho (a:=⟨g,k*2,none⟩) hl _) (a:=⟨g,k*2+1,none⟩) hl _
 refine ⟨vs.set k (.slice C xs[k].codes.length c,.slice E xs[k].elems.length d),fun j=>if j≤k then m j else w.heap.size,by simpa using h1,?_,?_,fun i hi=>?_,?_,by simp,fun q hq=>?_,?_,fun i hi hix hiv=>?_⟩
 ·have t1:=(h2.stored (k*2+0) (.slice C xs[k].codes.length c)).1
  rw [flatK_set enC 2 (fun _=>rfl) vs k 0 _ (.slice C xs[k].codes.length c,vs[k].2) hzi (by omega) rfl] at t1
  have t2:=(t1.stored (k*2+1) (.slice E xs[k].elems.length d)).1
  rw [flatK_set enC 2 (fun _=>rfl) (vs.set k (.slice C xs[k].codes.length c,vs[k].2)) k 1 _ (.slice C xs[k].codes.length c,.slice E xs[k].elems.length d) (by simpa using hzi) (by omega) (by rw [List.getElem_set_self];rfl),List.set_set] at t2
  exact t2
 ·intro i hi hv
  have hIC:IntsAp (some ⟨g,0,none⟩) z w C xs[k].codes:=⟨Sl.of_own hC,fun hne q hq=>⟨fun e=>(hap C 0 (fun q hq=>(own_blk hC hq).1) q hq).1 (Option.some.inj (show some g=some q from e)),(hap C 0 (fun q hq=>(own_blk hC hq).1) q hq).2⟩⟩
  have hIE:EltsAp (some ⟨g,0,none⟩) z w E xs[k].elems:=⟨Sl.of_own hE,fun hne q hq=>⟨fun e=>(hap E 0 (fun q hq=>(own_blk hE hq).1) q hq).1 (Option.some.inj (show some g=some q from e)),(hap E 0 (fun q hq=>(own_blk hE hq).1) q hq).2⟩⟩
  by_cases e:k=i
  ·subst e
   exact ⟨C,c,E,d,by rw [List.getElem_set_self],(hIC.stored ⟨g,k*2,none⟩ (.inl rfl) _).stored ⟨g,k*2+1,none⟩ (.inl rfl) _,(hIE.stored ⟨g,k*2,none⟩ (.inl rfl) _).stored ⟨g,k*2+1,none⟩ (.inl rfl) _⟩
  ·obtain ⟨C',c',E',d',e1,e2,e3⟩:=h3 i hi (by simpa using hv)
   exact ⟨C',c',E',d',by rw [List.getElem_set_ne e,e1],(e2.stored ⟨g,k*2,none⟩ (.inl rfl) _).stored ⟨g,k*2+1,none⟩ (.inl rfl) _,(e3.stored ⟨g,k*2,none⟩ (.inl rfl) _).stored ⟨g,k*2+1,none⟩ (.inl rfl) _⟩
 ·dsimp only
  rw [if_pos (by omega)]
  by_cases e:i=k
  ·subst e;rw [if_neg (by omega)];omega
  ·rw [if_pos (by omega)];exact h4 i (by omega)
 ·dsimp only
  rw [if_neg (by omega)]
  exact Nat.le_refl _
 ·dsimp only
  rw [if_pos (by omega)]
  exact h6 q hq
 ·dsimp only
  rw [if_pos (by omega)]
  exact h7
 ·dsimp only
  rw [if_pos (by omega)]
  by_cases e:i=k
  ·subst e
   rw [if_neg (by omega),List.getElem_set_self]
   exact ⟨C,c,E,d,rfl,e1 C _ _ _ _ _ _ (by omega) (own_mono hC (by omega)),e1 E _ _ _ _ _ _ (by omega) (own_mono hE (by omega)),fun q hq=>(own_blk hC hq).2,fun q hq=>(own_blk hE hq).2,hCE⟩
  ·rw [if_pos (by omega),List.getElem_set_ne (fun q=>e q.symm)]
   have:=mono_up h4 i (by omega)
   exact ((h8 i (by omega) hix (by omega)).set (p:=⟨g,k*2,none⟩) (by dsimp only;omega) _).set (p:=⟨g,k*2+1,none⟩) (by dsimp only;omega) _
end
def RetCp (c:Col) (w:World) (e:Ending) (w':World):Prop:=∃A a B b base z top,e=.returned (colV A c.ents.length a B c.grps.length b c)∧CpE w' base z A a c.ents c.ents.length top∧w'.ownsRow w.heap.size 98 3 (.slice B c.grps.length b) c.grps.length (flatK Grp.cells c.grps)∧(∀q,blk B=some q→q < base)∧ColAt w' A c.ents.length B c.grps.length c∧w.heap.size≤z∧z < base∧Below w.heap.size w w'
theorem results_col {fn:Func} (hr:fn.results=#[.cell 2 32]) (tmps:Array Value) (w:World) {b:Nat} {v0 v1 v2 v3 v4:Value} (ha:tmps.getD 2 undef=.pointer (some ⟨b,0,none⟩))
  (c0:w.cell? ⟨b,0,none⟩=some v0) (c1:w.cell? ⟨b,1,none⟩=some v1) (c2:w.cell? ⟨b,2,none⟩=some v2) (c3:w.cell? ⟨b,3,none⟩=some v3) (c4:w.cell? ⟨b,4,none⟩=some v4) :
  (results fn tmps).run Tryz.prog w=.ok (.agg #[v0,v1,v2,v3,v4]) w:=by
 unfold results
 rw [hr]
 simp only [ha,List.mapM_toArray,List.mapM_cons,List.mapM_nil,asAddr]
 go_simp
theorem copied_any (A:Option Addr) (n a:Nat) (B:Option Addr) (m b:Nat) (c:Col) (w:World) (hC:ColAt w A n B m c) (hz:ColSz c) :
  Calls Tryz.prog 38 #[colV A n a B m b c] w (RetCp c w):=by
 obtain ⟨hE,hG,rfl,rfl,hs⟩:=hC
 unfold colV RetCp
 unfold colV
 have B0:Below w.heap.size w ((w.alloc (.cells #[.slice A c.ents.length a,.slice B c.grps.length b,.int .i64 c.base,.int .i64 c.second,.int .i64 c.third] 32)).alloc (.cells #[.slice none 0 0,.slice none 0 0,.int .i64 0,.int .i64 0,.int .i64 0] 32)):=((Below.refl _ _).alloc (Nat.le_refl _) _).alloc (by simp) _
 have X0:Box ((w.alloc (.cells #[.slice A c.ents.length a,.slice B c.grps.length b,.int .i64 c.base,.int .i64 c.second,.int .i64 c.third] 32)).alloc (.cells #[.slice none 0 0,.slice none 0 0,.int .i64 0,.int .i64 0,.int .i64 0] 32)) w.heap.size 32 [.slice A c.ents.length a,.slice B c.grps.length b,.int .i64 c.base,.int .i64 c.second,.int .i64 c.third]:=bx_alloc (Box.new w 32 [.slice A c.ents.length a,.slice B c.grps.length b,.int .i64 c.base,.int .i64 c.second,.int .i64 c.third] rfl) _
 have X1:Box ((w.alloc (.cells #[.slice A c.ents.length a,.slice B c.grps.length b,.int .i64 c.base,.int .i64 c.second,.int .i64 c.third] 32)).alloc (.cells #[.slice none 0 0,.slice none 0 0,.int .i64 0,.int .i64 0,.int .i64 0] 32)) (w.heap.size+1) 32 [.slice none 0 0,.slice none 0 0,.int .i64 0,.int .i64 0,.int .i64 0]:=Box.new _ _ _ (by simp)
 have W0E:∃W0,((w.alloc (.cells #[.slice A c.ents.length a,.slice B c.grps.length b,.int .i64 c.base,.int .i64 c.second,.int .i64 c.third] 32)).alloc (.cells #[.slice none 0 0,.slice none 0 0,.int .i64 0,.int .i64 0,.int .i64 0] 32))=W0:=⟨_,rfl⟩
 obtain ⟨cs1,hc1,hl1,h11,hin⟩:=ents_raw hE
 have z0:=hz.n
 have z1:=hz.m
 have C0:=Lib.hid (fun W (hb:Below w.heap.size w W)=>cloneGroup_raw B c.grps.length b (flatK Grp.cells c.grps) W (Sl.below hG hb) (flatK_len Grp.cells 3 (fun _=>rfl) c.grps) (grps_one _) (by omega))
 have C1:=Lib.hid (fun W (hb:Below w.heap.size w W)=>cloneEntry_raw A c.ents.length a cs1 W (Sl.below hc1 hb) hl1 h11 (by omega))
 have HIN:=Lib.hid hin
 have CI:=Lib.hid (fun i (hi:i < c.ents.length) C k W (hI:Ints W C c.ents[i].codes)=>cloneI_any C c.ents[i].codes.length k c.ents[i].codes W hI rfl (hz.e i hi).1)
 have CE:=Lib.hid (fun i (hi:i < c.ents.length) C k W (hI:Elts W C c.ents[i].elems)=>cloneE_any C c.ents[i].elems.length k c.ents[i].elems W hI rfl (hz.e i hi).2)
 have HFIN:=Lib.hid (fun A' B' W (h0:Ents W A' c.ents) (h1:Grps W B' c.grps)=>(⟨h0,h1,rfl,rfl,hs⟩:ColAt W A' c.ents.length B' c.grps.length c))
 have SZ:=Lib.hid (fun i (hi:i < c.ents.length)=>hz.e i hi)
 unfold RetOwnC at C0 C1
 unfold RetOwnI at CI
 unfold RetOwnE at CE
 clear hE hG hs hz hc1 hl1 h11 hin
 go_enter Tryz.func38,Tryz.ntmps38
 go_upto_region 1 with (fail)
 obtain ⟨W0,hW0⟩:=W0E
 try rw [hW0] at B0 X0 X1 ⊢
 clear hW0
 have s0:=X0.lt
 have s1:=X1.lt
 have d0:=X0.cell (i:=1) rfl
 go_wp2_with fail
 with_reducible refine (C0.out W0 B0).mono ?_
 rintro e Wa ⟨E1,e1,rfl,O1,hba⟩
 have f0:=(X0.below hba s0).free 1
 have g0:=(X0.below hba s0).cell (i:=1) rfl
 have Y0:Box (Wa.setCell ⟨w.heap.size,1,none⟩ (.slice E1 c.grps.length e1)) w.heap.size 32 [.slice A c.ents.length a,.slice E1 c.grps.length e1,.int .i64 c.base,.int .i64 c.second,.int .i64 c.third]:=(X0.below hba s0).set 1 _
 have Y1:Box (Wa.setCell ⟨w.heap.size,1,none⟩ (.slice E1 c.grps.length e1)) (w.heap.size+1) 32 [.slice none 0 0,.slice none 0 0,.int .i64 0,.int .i64 0,.int .i64 0]:=bx_ne (X1.below hba s1) _ (by simp) _
 have Bb:Below w.heap.size w (Wa.setCell ⟨w.heap.size,1,none⟩ (.slice E1 c.grps.length e1)):=(B0.trans (hba.mono B0.size)).setCell (Nat.le_refl _) _
 have NO1:=ownsRow_setCell_below O1 (a:=⟨w.heap.size,1,none⟩) s0 (.slice E1 c.grps.length e1)
 have hsz:W0.heap.size≤(Wa.setCell ⟨w.heap.size,1,none⟩ (.slice E1 c.grps.length e1)).heap.size:=by have:=hba.size;simpa using this
 have hlq:Below W0.heap.size w (Wa.setCell ⟨w.heap.size,1,none⟩ (.slice E1 c.grps.length e1))→True:=fun _=>trivial
 have WE:∃W,(Wa.setCell ⟨w.heap.size,1,none⟩ (.slice E1 c.grps.length e1))=W:=⟨_,rfl⟩
 clear O1 d0 X0 X1 hba B0 hlq
 go_upto_region 2 with (fail)
 obtain ⟨W1,hW⟩:=WE
 try rw [hW] at Bb Y0 Y1 hsz NO1 ⊢
 clear hW f0 g0 C0
 have O1:=NO1
 clear NO1
 have X0:=Y0
 have X1:=Y1
 have B0:=Bb
 have zW0:=hsz
 have tW0:=s1
 clear Y0 Y1 Bb hsz s1
 have sW0:=s0
 clear s0
 have s0:=X0.lt
 have s1:=X1.lt
 have Q1:=Lib.hid (fun q (hq:blk E1=some q)=>own_blk O1 hq)
 have d0:=X0.cell (i:=0) rfl
 go_wp2_with fail
 with_reducible refine (C1.out W1 B0).mono ?_
 rintro e Wb ⟨E0,e0,rfl,O0,hba⟩
 have f0:=(X0.below hba s0).free 0
 have g0:=(X0.below hba s0).cell (i:=0) rfl
 have Y0:Box (Wb.setCell ⟨w.heap.size,0,none⟩ (.slice E0 c.ents.length e0)) w.heap.size 32 [.slice E0 c.ents.length e0,.slice E1 c.grps.length e1,.int .i64 c.base,.int .i64 c.second,.int .i64 c.third]:=(X0.below hba s0).set 0 _
 have Y1:Box (Wb.setCell ⟨w.heap.size,0,none⟩ (.slice E0 c.ents.length e0)) (w.heap.size+1) 32 [.slice none 0 0,.slice none 0 0,.int .i64 0,.int .i64 0,.int .i64 0]:=bx_ne (X1.below hba s1) _ (by simp) _
 have Bb:Below w.heap.size w (Wb.setCell ⟨w.heap.size,0,none⟩ (.slice E0 c.ents.length e0)):=(B0.trans (hba.mono B0.size)).setCell (Nat.le_refl _) _
 have NO0:=ownsRow_setCell_below O0 (a:=⟨w.heap.size,0,none⟩) s0 (.slice E0 c.ents.length e0)
 have NO1:=ownsRow_setCell_below (own_keep O1 hba) (a:=⟨w.heap.size,0,none⟩) (by omega) (.slice E0 c.ents.length e0)
 have hsz:W1.heap.size≤(Wb.setCell ⟨w.heap.size,0,none⟩ (.slice E0 c.ents.length e0)).heap.size:=by have:=hba.size;simpa using this
 have hlq:Below W1.heap.size w (Wb.setCell ⟨w.heap.size,0,none⟩ (.slice E0 c.ents.length e0))→True:=fun _=>trivial
 have WE:∃W,(Wb.setCell ⟨w.heap.size,0,none⟩ (.slice E0 c.ents.length e0))=W:=⟨_,rfl⟩
 have HM:=HIN.out W1.heap.size (w.heap.size+1) E0 e0 _ Bb B0.size (by omega) NO0
 clear NO0 O0 O1 d0 X0 X1 hba B0 hlq HIN
 go_upto_region 3 with (fail)
 obtain ⟨W2,hW⟩:=WE
 try rw [hW] at Bb Y0 Y1 hsz HM NO1 ⊢
 clear hW f0 g0 C1
 have O1:=NO1
 clear NO1
 have X0:=Y0
 have X1:=Y1
 have B0:=Bb
 have zW1:=hsz
 have tW1:=s1
 clear Y0 Y1 Bb hsz s1
 have sW1:=s0
 clear s0
 have s0:=X0.lt
 have s1:=X1.lt
 have HO1:=Lib.hid O1
 have HX0:=Lib.hid X0
 have HX1:=Lib.hid X1
 have HB0:=Lib.hid B0
 have HMM:=Lib.hid HM
 have HE1:=Lib.hid (fun q (hq:blk E0=some q)=>show W1.heap.size≤q from by
  obtain ⟨vs,_,h2,_⟩:=HM.ex
  exact (own_blk h2 hq).1)
 have hz3:w.heap.size+1 < W1.heap.size:=by omega
 have hz2:W1.heap.size≤W2.heap.size:=by omega
 have q1:=X0.cell (i:=0) rfl
 clear O1 X0 X1 B0 HM s0 s1
 go_wp2_with fail
 go_loopw [16] (fun u wr=>∃i top:Nat,i≤c.ents.length∧u=.int .i64 i∧CpE wr W1.heap.size (w.heap.size+1) E0 e0 c.ents i top∧W2.grownBy wr (blk E0)) (fun u _=>c.ents.length - (intOf u).toNat)
 case atStart=>exact ⟨0,W2.heap.size,Nat.zero_le _,rfl,HMM.out.cp (by omega),grownR_refl _ _⟩
 case round=>
  obtain ⟨i,top,hi,rfl,hm,hg⟩:=hrel
  have hws:=hg.size
  have HW:=Lib.hid hg
  have n0:some w.heap.size≠blk E0:=fun e=>by have:=HE1.out _ e.symm;omega
  have n1:some (w.heap.size+1)≠blk E0:=fun e=>by have:=HE1.out _ e.symm;omega
  have HXr:=Lib.hid (HX0.out.grown hg n0)
  have HXs:=Lib.hid (HX1.out.grown hg n1)
  clear n0 n1
  by_cases hlt:i < c.ents.length
  ·obtain ⟨g,C,cc,E,ec,hEq,hge,hgl,c0,c1,f0,f1,hC,hEl⟩:=hm.into.at hlt
   subst hEq
   have HMi:=Lib.hid hm
   have htop:=hm.top_le
   have PUT:=Lib.hid (fun (K:Option Addr) (k:Nat) (D:Option Addr) (d lo:Nat) (W:World) (h:CpE W W1.heap.size (w.heap.size+1) (some ⟨g,0,none⟩) e0 c.ents i top) hlo hK hD hKD=>h.put (C:=K) (c:=k) (E:=D) (d:=d) (lo:=lo) hlt hlo hK hD hKD)
   have CIi:=Lib.hid (CI.out i hlt)
   have CEi:=Lib.hid (CE.out i hlt)
   have HC:=Lib.hid hC
   have HEl:=Lib.hid hEl
   clear hm hg hC hEl
   have hcap:=SZ.out i hlt
   generalize c.ents[i]=en at *
   obtain ⟨cd,el⟩:=en
   dsimp only at *
   have hne:¬g=wr.heap.size:=by omega
   have c0':wr.cell? ⟨g,0+i*2,none⟩=some (.slice C cd.length cc):=by rw [Nat.zero_add];exact c0
   have BA:Below wr.heap.size wr (wr.alloc (.cells #[.slice C cd.length cc,.slice E el.length ec] 75)):=(Below.refl _ _).alloc (Nat.le_refl _) _
   have XA:Box (wr.alloc (.cells #[.slice C cd.length cc,.slice E el.length ec] 75)) wr.heap.size 75 [.slice C cd.length cc,.slice E el.length ec]:=Box.new wr 75 [.slice C cd.length cc,.slice E el.length ec] rfl
   have WaE:∃Wa,(wr.alloc (.cells #[.slice C cd.length cc,.slice E el.length ec] 75))=Wa:=⟨_,rfl⟩
   go_upto_region 6 with (fail)
   obtain ⟨Wa,hWa⟩:=WaE
   try rw [hWa] at BA XA ⊢
   clear hWa c0 c1 c0'
   have sa:=XA.lt
   have XRa:=HXr.out.below BA HXr.out.lt
   have sw:=XRa.lt
   have hgw:g < Wa.heap.size:=by omega
   have hga:g≠w.heap.size:=by omega
   have hgb:g≠wr.heap.size:=by omega
   have k1:=XRa.cell (i:=0) rfl
   have k2:=XA.cell (i:=0) rfl
   have k3:=XA.cell (i:=1) rfl
   have SH:=Lib.hid (fun W' (hg':Wa.grownBy W' (some g))=>show W'.cell? ⟨w.heap.size,0,none⟩=some (.slice (some ⟨g,0,none⟩) c.ents.length e0)∧W'.cell? ⟨wr.heap.size,0,none⟩=some (.slice C cd.length cc)∧W'.cell? ⟨wr.heap.size,1,none⟩=some (.slice E el.length ec)∧Wa.grownBy W' (some g) from ⟨(World.cell?_of_block (hg'.block _ sw (fun e=>hga (by injection e with e;exact e.symm)))).trans k1,(World.cell?_of_block (hg'.block _ sa (fun e=>hgb (by injection e with e;exact e.symm)))).trans k2,(World.cell?_of_block (hg'.block _ sa (fun e=>hgb (by injection e with e;exact e.symm)))).trans k3,hg'⟩)
   have FRZ:=Lib.hid (CpE.below HMi.out BA)
   have TI:=Lib.hid (fun W (hb':Below Wa.heap.size Wa W) (hg':Wa.grownBy W (some g))=>(CIi.out C cc W ((HC.out.below BA).below hb')).mono (R':=fun e' W'=>∃v,e'=.returned v∧(W'.cell? ⟨w.heap.size,0,none⟩=some (.slice (some ⟨g,0,none⟩) c.ents.length e0)∧W'.cell? ⟨wr.heap.size,0,none⟩=some (.slice C cd.length cc)∧W'.cell? ⟨wr.heap.size,1,none⟩=some (.slice E el.length ec)∧Wa.grownBy W' (some g))∧(∃K k,v=.slice K cd.length k∧W'.ownsRow Wa.heap.size 3 1 (.slice K cd.length k) cd.length (cd.map (Value.int .i64))∧Below Wa.heap.size Wa W')) (fun e' W' ⟨K,k,he,g1,g2⟩=>⟨_,he,SH.out W' (grownR_below hg' g2),K,k,rfl,own_mono g1 hb'.size,hb'.trans (g2.mono hb'.size)⟩))
   have TE:=Lib.hid (fun W (hb':Below Wa.heap.size Wa W) (hg':Wa.grownBy W (some g))=>(CEi.out E ec W ((HEl.out.below BA).below hb')).mono (R':=fun e' W'=>∃v,e'=.returned v∧(W'.cell? ⟨w.heap.size,0,none⟩=some (.slice (some ⟨g,0,none⟩) c.ents.length e0)∧W'.cell? ⟨wr.heap.size,0,none⟩=some (.slice C cd.length cc)∧W'.cell? ⟨wr.heap.size,1,none⟩=some (.slice E el.length ec)∧Wa.grownBy W' (some g))∧(∃K k,v=.slice K el.length k∧W'.ownsRow W.heap.size 77 4 (.slice K el.length k) el.length (flatK Elt.cells el)∧Below Wa.heap.size Wa W'∧Below W.heap.size W W')) (fun e' W' ⟨K,k,he,g1,g2⟩=>⟨_,he,SH.out W' (grownR_below hg' g2),K,k,rfl,g1,hb'.trans (g2.mono hb'.size),g2⟩))
   have HBA:=Lib.hid BA
   clear k1 k2 k3 BA
   go_wp2_with fail
   refine wp_region_held_drew (S:=fun W'=>W'.cell? ⟨w.heap.size,0,none⟩=some (.slice (some ⟨g,0,none⟩) c.ents.length e0)∧W'.cell? ⟨wr.heap.size,0,none⟩=some (.slice C cd.length cc)∧W'.cell? ⟨wr.heap.size,1,none⟩=some (.slice E el.length ec)∧Wa.grownBy W' (some g)) (by kernel_rfl) (SH.out _ (grownR_drew (grownR_refl Wa _))) (fun hHeld=>?_)
   refine tK 0 21 ?_
   refine tK 1 22 ?_
   refine tK 2 23 ?_
   refine tK 3 24 ?_
   refine tK 4 25 ?_
   refine tK 6 27 ?_
   refine tK 7 28 ?_
   refine qE 5 26 (TI.out _ (Below.refl _ _).drew (grownR_drew (grownR_refl Wa _))) ?_
   clear hHeld
   rintro _ W5 hHeld ⟨K,k,rfl,hK,hb5⟩
   refine qE 8 29 (TE.out _ hb5 hHeld.2.2.2) ?_
   clear hHeld
   rintro _ W6 hHeld ⟨D,dd,rfl,hD,hb6,hb56⟩
   refine tK 9 30 ?_
   refine tK 10 31 ?_
   obtain ⟨g',_,_,_,_,hE',_,_,e0',e1',f0',f1',_⟩:=(FRZ.out.below hb6).into.at hlt
   obtain rfl:g=g':=by injection hE' with hE';injection hE'
   clear hE'
   have g1':(W6.setCell ⟨g,i*2,none⟩ (.slice K cd.length k)).frozen? ⟨g,i*2+1,none⟩=false:=by simpa using f1'
   refine anyH_unit (w':=(W6.setCell ⟨g,i*2,none⟩ (.slice K cd.length k)).setCell ⟨g,i*2+1,none⟩ (.slice D el.length dd)) (i:=11) none rfl rfl (by kernel_rfl) (by rfl) (by go_simp) (SH.out _ (gr_set (p:=⟨g,i*2+1,none⟩) (gr_set (p:=⟨g,i*2,none⟩) (hHeld.2.2.2) _) _)) ?_
   try simp only [Act.put]
   refine wpAnyH_done (by kernel_rfl) ?_ _
   have hgr:=grownR_trans (grownR_below HW.out HBA.out) hHeld.2.2.2
   have hput:=PUT.out K k D dd Wa.heap.size W6 (FRZ.out.below hb6) (by omega) (own_keep hK hb56) (own_mono hD hb5.size) (fun q hq e=>by
    have h1:=(own_blk hK hq).2
    have h2:=(own_blk hD e).1
    omega)
   have HGR:=Lib.hid hgr
   have HPT:=Lib.hid hput
   clear hHeld SH TI TE FRZ e0' e1' f0' f1' g1' hgr hput hK hD hb5 hb6 hb56 PUT HMi HBA XA XRa HXr HXs
   go_wp2_with fail
   go_roundw
   case rel=>exact ⟨i+1,W6.heap.size,by omega,by go_num,HPT.out,gr_set (p:=⟨g,i*2+1,none⟩) (gr_set (p:=⟨g,i*2,none⟩) HGR.out _) _⟩
   case measure=>simp [intOf];omega
  ·obtain rfl:i=c.ents.length:=by omega
   have X0r:=HXr.out
   have c0:=X0r.cell (i:=0) rfl
   have c1:=X0r.cell (i:=1) rfl
   have c2:=X0r.cell (i:=2) rfl
   have c3:=X0r.cell (i:=3) rfl
   have c4:=X0r.cell (i:=4) rfl
   have X1r:=HXs.out
   have f0:=X1r.free 0
   have f1:=X1r.free 1
   have f2:=X1r.free 2
   have f3:=X1r.free 3
   have f4:=X1r.free 4
   have g0:=X1r.cell (i:=0) rfl
   have g1:=X1r.cell (i:=1) rfl
   have g2:=X1r.cell (i:=2) rfl
   have g3:=X1r.cell (i:=3) rfl
   have g4:=X1r.cell (i:=4) rfl
   have hwz:w.heap.size+1 < W1.heap.size:=hz3
   have MF:CpE (((((wr.setCell ⟨w.heap.size+1,0,none⟩ (.slice E0 c.ents.length e0)).setCell ⟨w.heap.size+1,1,none⟩ (.slice E1 c.grps.length e1)).setCell ⟨w.heap.size+1,2,none⟩ (.int .i64 c.base)).setCell ⟨w.heap.size+1,3,none⟩ (.int .i64 c.second)).setCell ⟨w.heap.size+1,4,none⟩ (.int .i64 c.third)) W1.heap.size (w.heap.size+1) E0 e0 c.ents c.ents.length top:=((((hm.off hwz ⟨w.heap.size+1,0,none⟩ rfl _).off hwz ⟨w.heap.size+1,1,none⟩ rfl _).off hwz ⟨w.heap.size+1,2,none⟩ rfl _).off hwz ⟨w.heap.size+1,3,none⟩ rfl _).off hwz ⟨w.heap.size+1,4,none⟩ rfl _
   have ZF:Box (((((wr.setCell ⟨w.heap.size+1,0,none⟩ (.slice E0 c.ents.length e0)).setCell ⟨w.heap.size+1,1,none⟩ (.slice E1 c.grps.length e1)).setCell ⟨w.heap.size+1,2,none⟩ (.int .i64 c.base)).setCell ⟨w.heap.size+1,3,none⟩ (.int .i64 c.second)).setCell ⟨w.heap.size+1,4,none⟩ (.int .i64 c.third)) (w.heap.size+1) 32 [.slice E0 c.ents.length e0,.slice E1 c.grps.length e1,.int .i64 c.base,.int .i64 c.second,.int .i64 c.third]:=((((X1r.set 0 _).set 1 _).set 2 _).set 3 _).set 4 _
   have GF:wr.grownBy (((((wr.setCell ⟨w.heap.size+1,0,none⟩ (.slice E0 c.ents.length e0)).setCell ⟨w.heap.size+1,1,none⟩ (.slice E1 c.grps.length e1)).setCell ⟨w.heap.size+1,2,none⟩ (.int .i64 c.base)).setCell ⟨w.heap.size+1,3,none⟩ (.int .i64 c.second)).setCell ⟨w.heap.size+1,4,none⟩ (.int .i64 c.third)) (some (w.heap.size+1)):=gr_set (p:=⟨w.heap.size+1,4,none⟩) (gr_set (p:=⟨w.heap.size+1,3,none⟩) (gr_set (p:=⟨w.heap.size+1,2,none⟩) (gr_set (p:=⟨w.heap.size+1,1,none⟩) (grown_set wr ⟨w.heap.size+1,0,none⟩ _) _) _) _) _
   have WFE:∃Wf,(((((wr.setCell ⟨w.heap.size+1,0,none⟩ (.slice E0 c.ents.length e0)).setCell ⟨w.heap.size+1,1,none⟩ (.slice E1 c.grps.length e1)).setCell ⟨w.heap.size+1,2,none⟩ (.int .i64 c.base)).setCell ⟨w.heap.size+1,3,none⟩ (.int .i64 c.second)).setCell ⟨w.heap.size+1,4,none⟩ (.int .i64 c.third))=Wf:=⟨_,rfl⟩
   have HHG:=Lib.hid hg
   clear hm hg X0r X1r HXr HXs
   go_wp2_with fail
   obtain ⟨Wf,hWf⟩:=WFE
   try rw [hWf] at MF ZF GF ⊢
   clear hWf
   have z0:=ZF.cell (i:=0) rfl
   have z1':=ZF.cell (i:=1) rfl
   have z2:=ZF.cell (i:=2) rfl
   have z3:=ZF.cell (i:=3) rfl
   have z4:=ZF.cell (i:=4) rfl
   (try simp only [Exit.inBlock,Exit.then])
   refine bodyPost_ret (results_col rfl _ _ (b:=w.heap.size+1) rfl z0 z1' z2 z3 z4) rfl ?_
   have hcf:Chg (fun q=>blk E0=some q∨q=w.heap.size+1) W2 Wf:=(Chg.of_grown HHG.out (fun q e=>.inl e)).trans (Chg.of_grown GF (fun q e=>.inr (by injection e with e;exact e.symm)))
   have h1:Grps Wf E1 c.grps:=hcf.sl (Sl.of_own HO1.out) (fun _ q hq hS=>by
    have b1:=Q1.out q hq
    rcases hS with g | g
    ·have:=HE1.out q g;omega
    ·omega)
   have bel:Below w.heap.size w Wf:=HB0.out.trans (hcf.below (n:=w.heap.size) (by omega) (fun k hk=>by
    rcases hk with g | g
    ·have:=HE1.out k g;omega
    ·omega))
   have o1:=HO1.out.kept HHG.out (by
    rw [ownBlock_blk]
    cases hq:blk E1 with
    | none=>exact .inl rfl
    | some q=>exact .inr (fun e=>by have:=Q1.out q hq;have:=HE1.out q e.symm;omega))
   have OGR:=own_mono (o1.kept GF (by
    rw [ownBlock_blk]
    cases hq:blk E1 with
    | none=>exact .inl rfl
    | some q=>exact .inr (fun e=>by have:=Q1.out q hq;injection e with e;omega))) (show w.heap.size≤W0.heap.size by omega)
   exact ⟨E0,e0,E1,e1,W1.heap.size,w.heap.size+1,top,rfl,MF,OGR,fun q hq=>(Q1.out q hq).2,HFIN.out E0 E1 Wf MF.into.is h1,by omega,hz3,bel⟩
end Go.Proofs.YtkhmjidaeliccaaGreatDoor
namespace Go.Proofs.YtkhmjidaeliccaaGreatDoor.Tl
open Go.RowKit
def wt (k:Int) (e:Elt):Int:=if k=1 then e.p else if k=2 then e.s else e.t
def setW (k:Int) (e:Elt) (x:Int):Elt:=if k=1 then ⟨x,e.s,e.t,e.v⟩ else if k=2 then ⟨e.p,x,e.t,e.v⟩ else if k=3 then ⟨e.p,e.s,x,e.v⟩ else e
def mvd (l x:Int):Int:=if l≤x then x+1 else x
def rsE (k l:Int) (e:Elt):Elt:=setW k e (mvd l (wt k e))
def rsEnt (k l:Int) (x:Ent):Ent:=⟨x.codes,x.elems.map (rsE k l)⟩
def rsG (k w:Int) (g:Grp):Grp:=if k=1 then ⟨g.name,mvd (w+1) g.lo,mvd w g.hi⟩ else g
def roomC (k w l:Int) (c:Col):Col:=⟨c.ents.map (rsEnt k l),c.grps.map (rsG k w),if k=1 then mvd l c.base else c.base,if k=2 then mvd l c.second else c.second,if k=3 then mvd l c.third else c.third⟩
def putE (es:List Ent) (x:Ent):List Ent:=es.filter (fun y=>decide (cmpL y.codes x.codes < 0))++x::es.filter (fun y=>decide (0 < cmpL y.codes x.codes))
def lstK (k:Int) (es:List Elt):Nat→Nat
 | 0=>0
 | n+1=>if wt k (es.getD n ⟨0,0,0,false⟩)≠0 then n+1 else lstK k es n
def lst (w:Int) (b:Bool):Int:=if b=true then w else w+1
def newE (k l:Int) (c:Col) (e:Elt):Elt:=if k=1 then ⟨l,c.second,c.third,e.v⟩ else if k=2 then ⟨e.p,l,c.third,e.v⟩ else ⟨e.p,e.s,l,e.v⟩
def bigE (e:Elt):Bool:=decide (65535 < e.p) || decide (65535 < e.s) || decide (65535 < e.t)
def overC (c:Col):Bool:=c.ents.any (fun x=>x.elems.any bigE) || (decide (65502 < c.base) || decide (65535 < c.second) || decide (65535 < c.third))
def atE (k:Int) (es:List Elt):Elt:=es.getD (lstK k es es.length - 1) ⟨0,0,0,false⟩
def atW (k:Int) (es:List Elt):Int:=wt k (atE k es)
def roomT (t:Tlr) (es:List Elt) (c:Col):Col:=roomC t.lvl (atW t.lvl es) (lst (atW t.lvl es) t.bef) c
def newL (t:Tlr) (es:List Elt) (c:Col):List Elt:=(es.take (lstK t.lvl es es.length - 1)).map (rsE t.lvl (lst (atW t.lvl es) t.bef))++[newE t.lvl (lst (atW t.lvl es) t.bef) (roomT t es c) (atE t.lvl es)]
def col0:Col:=⟨[],[],0,0,0⟩
def stepB (d:List Int) (kn:Bool) (es:List Elt) (c:Col) (t:Tlr):Int × Col:=
 if 8 < d.length then (2,col0)
 else if kn=false∨(0 < t.lvl∧lstK t.lvl es es.length=0) then (7,col0)
 else if t.lvl=0 then (if 16 < es.length then (2,col0) else (0,{ c with ents:=putE c.ents ⟨d,es⟩ }))
 else if 16 < lstK t.lvl es es.length then (2,col0)
 else if overC (roomT t es c)=true∨(newL t es c).any bigE=true then (13,col0)
 else (0,{ roomT t es c with ents:=putE (roomT t es c).ents ⟨d,newL t es c⟩ })
theorem mvd_nn {l x:Int} (h:0≤x):0≤mvd l x∧x≤mvd l x∧mvd l x≤x+1:=by unfold mvd;split <;> omega
theorem mvd_zero {l x:Int} (hl:1≤l):mvd l x=0 ↔ x=0∨(x=-1∧l≤-1):=by unfold mvd;split <;> omega
theorem mvd_lt {l x y:Int}:mvd l x < mvd l y ↔ x < y:=by unfold mvd;split <;> split <;> omega
theorem mvd_z {l:Int} (hl:1≤l):mvd l 0=0:=by unfold mvd;rw [if_neg (by omega)]
theorem mvd_pos {l x:Int} (h:1≤x):1≤mvd l x:=by unfold mvd;split <;> omega
theorem rsE_0 {k l:Int} (h:¬(k=1∨k=2∨k=3)) (e:Elt):rsE k l e=e:=by
 unfold rsE setW
 rw [if_neg (fun g=>h (.inl g)),if_neg (fun g=>h (.inr (.inl g))),if_neg (fun g=>h (.inr (.inr g)))]
theorem rsE_p (k l:Int) (e:Elt):(rsE k l e).p=if k=1 then mvd l e.p else e.p:=by
 unfold rsE setW wt
 by_cases h1:k=1
 ·simp [h1]
 ·by_cases h2:k=2
  ·simp [h2]
  ·by_cases h3:k=3
   ·simp [h3]
   ·simp [h1,h2,h3]
theorem rsE_s (k l:Int) (e:Elt):(rsE k l e).s=if k=2 then mvd l e.s else e.s:=by
 unfold rsE setW wt
 by_cases h1:k=1
 ·simp [h1]
 ·by_cases h2:k=2
  ·simp [h2]
  ·by_cases h3:k=3
   ·simp [h3]
   ·simp [h1,h2,h3]
theorem rsE_t (k l:Int) (e:Elt):(rsE k l e).t=if k=3 then mvd l e.t else e.t:=by
 unfold rsE setW wt
 by_cases h1:k=1
 ·simp [h1]
 ·by_cases h2:k=2
  ·simp [h2]
  ·by_cases h3:k=3
   ·simp [h3]
   ·simp [h1,h2,h3]
theorem rsE_v (k l:Int) (e:Elt):(rsE k l e).v=e.v:=by
 unfold rsE setW wt
 by_cases h1:k=1
 ·simp [h1]
 ·by_cases h2:k=2
  ·simp [h2]
  ·by_cases h3:k=3
   ·simp [h3]
   ·simp [h1,h2,h3]
structure EOk (e:Elt):Prop where
 p0:0≤e.p
 p1:e.p≤65535
 s0:0≤e.s
 s1:e.s≤65535
 t0:0≤e.t
 t1:e.t≤65535
 ps:e.p≠0→e.s≠0
 st:e.s≠0→e.t≠0
 vp:e.v=true→e.p≠0
theorem eok_iff (e:Elt):eltErr e=0 ↔ EOk e:=by
 unfold eltErr
 constructor
 ·intro h
  split at h
  ·cases h
  ·next h1=>
   split at h
   ·cases h
   ·next h2=>
    refine ⟨by omega,by omega,by omega,by omega,by omega,by omega,fun g=>?_,fun g=>?_,fun g=>?_⟩
    ·intro e0;exact h2 (.inl ⟨g,.inl e0⟩)
    ·intro e0;exact h2 (.inr (.inl ⟨g,e0⟩))
    ·intro e0;exact h2 (.inr (.inr ⟨g,e0⟩))
 ·intro h
  have:=h.p0;have:=h.p1;have:=h.s0;have:=h.s1;have:=h.t0;have:=h.t1
  rw [if_neg (by omega),if_neg]
  rintro (⟨g,g1 | g1⟩ | ⟨g,g1⟩ | ⟨g,g1⟩)
  ·exact h.ps g g1
  ·exact h.st (h.ps g) g1
  ·exact h.st g g1
  ·exact h.vp g g1
theorem bigE_false {e:Elt} (h:bigE e=false):e.p≤65535∧e.s≤65535∧e.t≤65535:=by
 unfold bigE at h
 simp at h
 omega
theorem rsE_ok {k l:Int} (hl:1≤l) {e:Elt} (h:EOk e) (hb:bigE (rsE k l e)=false):EOk (rsE k l e):=by
 obtain ⟨b1,b2,b3⟩:=bigE_false hb
 have hp:=h.p0;have hs:=h.s0;have ht:=h.t0
 have q1:(rsE k l e).p=0 ↔ e.p=0:=by rw [rsE_p];split;(rw [mvd_zero hl];omega);exact Iff.rfl
 have q2:(rsE k l e).s=0 ↔ e.s=0:=by rw [rsE_s];split;(rw [mvd_zero hl];omega);exact Iff.rfl
 have q3:(rsE k l e).t=0 ↔ e.t=0:=by rw [rsE_t];split;(rw [mvd_zero hl];omega);exact Iff.rfl
 refine ⟨?_,b1,?_,b2,?_,b3,fun g=>?_,fun g=>?_,fun g=>?_⟩
 ·rw [rsE_p];split;exact (mvd_nn hp).1;exact hp
 ·rw [rsE_s];split;exact (mvd_nn hs).1;exact hs
 ·rw [rsE_t];split;exact (mvd_nn ht).1;exact ht
 ·rw [Ne,q2];exact h.ps (by rw [Ne,q1] at g;exact g)
 ·rw [Ne,q3];exact h.st (by rw [Ne,q2] at g;exact g)
 ·rw [rsE_v] at g
  rw [Ne,q1];exact h.vp g
theorem lstK_le (k:Int) (es:List Elt):∀n,lstK k es n≤n
 | 0=>Nat.le_refl _
 | n+1=>by unfold lstK;split;exact Nat.le_refl _;exact Nat.le_succ_of_le (lstK_le k es n)
theorem lstK_at {k:Int} {es:List Elt}:∀{n},0 < lstK k es n→wt k (es.getD (lstK k es n - 1) ⟨0,0,0,false⟩)≠0
 | 0,h=>by simp [lstK] at h
 | n+1,h=>by
  unfold lstK at h ⊢
  split
  ·next h1=>exact h1
  ·next h1=>rw [if_neg h1] at h;exact lstK_at h
end Go.Proofs.YtkhmjidaeliccaaGreatDoor.Tl
