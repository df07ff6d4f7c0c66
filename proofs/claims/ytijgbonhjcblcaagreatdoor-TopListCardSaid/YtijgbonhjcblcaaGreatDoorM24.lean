/- Texts that are merged into one file: SlOps, SlIns. -/
import Derived.Test.YtijgbonhjcblcaaGreatDoorM02
import Derived.Test.YtijgbonhjcblcaaGreatDoorM03
import Derived.Test.YtijgbonhjcblcaaGreatDoorM04
import Derived.Test.YtijgbonhjcblcaaGreatDoorM11
import Derived.Test.YtijgbonhjcblcaaGreatDoorM16
import Derived.Test.YtijgbonhjcblcaaGreatDoorM18
import Derived.Test.YtijgbonhjcblcaaGreatDoorM20
import Derived.Test.YtijgbonhjcblcaaGreatDoorM23
import Derived.BigQuiet
import Derived.Shelf.Spec.SlicesInsertGrow
import Derived.Shelf.Slices.Delete
import Derived.Shelf.Slices.Cells
import Derived.Shelf.Slices.Empties
import Derived.Test.YtijgbonhjcblcaaGreatDoorProg
set_option maxRecDepth 100000
set_option maxHeartbeats 51200000
namespace Go.Proofs.YtijgbonhjcblcaaGreatDoor
open Go.RowKit Go.Maps Go.WideMaps Srl
theorem fldI (a b:Value) (W:World):(Instr.field 94 (.agg #[a,b]) 1).run Tryz.prog W=.ok b W:=by kernel_rfl
theorem fld1 (a b:Value) (w:World):((Sem.run Tryz.prog (Instr.field 94 (Value.agg #[a,b]) 1) w).andThen fun a w'=>Result.ok (Next.value a) w')=Result.ok (Next.value b) w:=by rw [fldI];rfl
theorem kyN_len (x:Nrm) (c:Col) (o:Opt) (t:List Int):(kyN x c o t).length≤4*(1024*t.length+1)+1+64*t.length:=by
 have h1:=joinW_len (optD o) (elsN x c t) (optD_bd o).1.2 (wgtL (optD o) (elsN x c t)).length
 rw [List.take_length] at h1
 have h2:=elsN_len x c t
 have h3:=idnL_len (dtx x false t)
 have h4:=dtx_len x false t
 unfold kyN keyN
 rw [List.length_append]
 split
 ·rw [List.length_cons];omega
 ·rw [List.length_nil];omega
theorem or_geq (p q:It):decide (0≤orI (cmpL p.1 q.1) (cmpI p.2 q.2))=decide (¬ltI p q):=by
 rw [Bool.eq_iff_iff]
 simp only [decide_eq_true_eq]
 unfold orI ltI cmpI
 by_cases e:cmpL p.1 q.1=0
 ·rw [if_pos e]
  by_cases g:p.2 < q.2
  ·rw [if_pos g];simp [e,g]
  ·rw [if_neg g]
   have:¬(cmpL p.1 q.1 < 0∨cmpL p.1 q.1=0∧p.2 < q.2):=by omega
   simp only [this,not_false_iff,iff_true]
   split <;> omega
 ·rw [if_neg e]
  omega
theorem zero_item (w:World):(zeroValue 94).run Tryz.prog w=.ok (.agg #[.slice none 0 0,.slice none 0 0]) w:=by kernel_rfl
section
variable {P:Program} {ops:Array Oper} {Q:Exit→Act→World→Prop} {md:Region.Mode} {S:World→Prop}
theorem anyH_look {κ:Type} {k:TypeId} {kl:κ→Lit} {ok:κ→Prop} {b n:Nat} {f:κ→Option Value} {i:Nat} {oi:Oper} {v:Value} {fuel:Nat} {listed:Array Bool} {a:Act} {w:World} (d:Option Tmp) (hi:ops[i]?=some oi) (hd:oi.dst=d)
  (hs:Region.noSelect ops=true) (hf:Region.free md ops listed i=true) (hr:(Region.ready md ops listed).contains i=true)
  (hQ:∀c a w,Q (.panic c) (a.put d v) w→Q (.panic c) a w) (hw:Region.wanted oi (yielded ops a.tmps)=true) (hS:S w)
  (m y:Operand) (t:TypeId) (hop:oi.op=Op.lookup t m y false) {e:TypeId} (h:∀w,S w→MapIs P k kl ok w b n f) (K:Keyed P k) (ht:P.underlying t=some (.map k e)) {z:Value} (hz:∀w,(zeroValue e).run P w=.ok z w)
  (hm:a.eval m=.map (some b)) {key:Value} {x:κ} (hy:a.eval y=key) (hx:ok x) (hkey:keyOf P k key=some (kl x)) (hv:(f x).getD z=v)
  (hK:wpAnyH P md ops Q S fuel (listed.setIfInBounds i true) (a.put d v) w):wpAnyH P md ops Q S (fuel+1) listed a w:=by
 subst hv
 refine anyH_take d hi hd hs hf hr hQ hw hS (fun w' hS'=>?_) hK
 simp [execOp,hop,hm,hy,(h w' hS').look K ht (hz w') hx hkey,Result.andThen]
end
theorem slKey_own {w:World} {l bs:Nat} {V:LsV} {mb:Nat} {O:Option Addr} {oc cnt:Nat} {x:Nrm} {c:Col} {o:Opt} {f:Int→Option Value} {L:Its} (h:Lst w l bs V mb O oc cnt x c o f L) (D:Option Addr) (dn dk:Nat) (t:List Int) (hD:Ints w D t) (hn:t.length=dn) (hbig:dn≤16384) (hio:∀z ∈ t,iok z) :
  Calls Tryz.prog 50 #[.pointer (some ⟨l,0,none⟩),.slice D dn dk] w (RetOwnI (kyN x c o t) w):=by
 subst hn
 have X0:=h.box
 unfold lsC at X0
 have l0:=X0.lt
 have KC:=Lib.hid (fun W (hb:Below w.heap.size w W)=>key_own V.A0 _ V.k0 V.A1 _ V.k1 V.A2 _ V.k2 x V.C _ V.a V.B _ V.b c o D t.length dk t W (h.nrm.below hb) h.nz (h.laid.below hb) (h.col.below hb) h.cz (hD.below hb) rfl hbig hio)
 have SH:=Lib.hid (fun W' (hb':Below w.heap.size w W')=>show W'.cell? ⟨l,0,none⟩=some (.slice V.A0 x.cls.length V.k0)∧W'.cell? ⟨l,1,none⟩=some (.slice V.A1 x.dec.length V.k1)∧W'.cell? ⟨l,2,none⟩=some (.slice V.A2 x.exc.length V.k2)∧W'.cell? ⟨l,3,none⟩=some (.slice V.C c.ents.length V.a)∧W'.cell? ⟨l,4,none⟩=some (.slice V.B c.grps.length V.b)∧W'.cell? ⟨l,5,none⟩=some (.int .i64 c.base)∧W'.cell? ⟨l,6,none⟩=some (.int .i64 c.second)∧W'.cell? ⟨l,7,none⟩=some (.int .i64 c.third)∧W'.cell? ⟨l,8,none⟩=some (.int .i64 o.st)∧W'.cell? ⟨l,9,none⟩=some (.int .i64 o.va)∧W'.cell? ⟨l,10,none⟩=some (.bool o.bk)∧W'.cell? ⟨l,11,none⟩=some (.bool o.idn)∧Below w.heap.size w W' from ⟨(X0.below hb' l0).cell (i:=0) rfl,(X0.below hb' l0).cell (i:=1) rfl,(X0.below hb' l0).cell (i:=2) rfl,(X0.below hb' l0).cell (i:=3) rfl,(X0.below hb' l0).cell (i:=4) rfl,(X0.below hb' l0).cell (i:=5) rfl,(X0.below hb' l0).cell (i:=6) rfl,(X0.below hb' l0).cell (i:=7) rfl,(X0.below hb' l0).cell (i:=8) rfl,(X0.below hb' l0).cell (i:=9) rfl,(X0.below hb' l0).cell (i:=10) rfl,(X0.below hb' l0).cell (i:=11) rfl,hb'⟩)
 have EK:=Lib.hid (show kyN x c o t=keyN (optD o) (elsN x c t) (dtx x false t) from rfl)
 rw [←EK.out] at KC
 generalize kyN x c o t=ky at *
 unfold colV RetOwnI at KC
 have TK:=Lib.hid (fun W (hb':Below w.heap.size w W)=>(KC.out W hb').mono (R':=fun e W'=>∃v,e=.returned v∧(W'.cell? ⟨l,0,none⟩=some (.slice V.A0 x.cls.length V.k0)∧W'.cell? ⟨l,1,none⟩=some (.slice V.A1 x.dec.length V.k1)∧W'.cell? ⟨l,2,none⟩=some (.slice V.A2 x.exc.length V.k2)∧W'.cell? ⟨l,3,none⟩=some (.slice V.C c.ents.length V.a)∧W'.cell? ⟨l,4,none⟩=some (.slice V.B c.grps.length V.b)∧W'.cell? ⟨l,5,none⟩=some (.int .i64 c.base)∧W'.cell? ⟨l,6,none⟩=some (.int .i64 c.second)∧W'.cell? ⟨l,7,none⟩=some (.int .i64 c.third)∧W'.cell? ⟨l,8,none⟩=some (.int .i64 o.st)∧W'.cell? ⟨l,9,none⟩=some (.int .i64 o.va)∧W'.cell? ⟨l,10,none⟩=some (.bool o.bk)∧W'.cell? ⟨l,11,none⟩=some (.bool o.idn)∧Below w.heap.size w W')∧(∃A c,v=.slice A ky.length c∧W'.ownsRow w.heap.size 3 1 (.slice A ky.length c) ky.length (ky.map (Value.int .i64))∧Below w.heap.size w W')) (fun e W' ⟨A,c,he,g1,g2⟩=>⟨_,he,SH.out W' (hb'.trans (g2.mono hb'.size)),A,c,rfl,own_mono g1 hb'.size,hb'.trans (g2.mono hb'.size)⟩))
 clear h hD hio X0 EK KC
 go_enter Tryz.func50,Tryz.ntmps50
 go_upto_region 1 with (fail)
 refine wp_region_held_drew (S:=fun W'=>W'.cell? ⟨l,0,none⟩=some (.slice V.A0 x.cls.length V.k0)∧W'.cell? ⟨l,1,none⟩=some (.slice V.A1 x.dec.length V.k1)∧W'.cell? ⟨l,2,none⟩=some (.slice V.A2 x.exc.length V.k2)∧W'.cell? ⟨l,3,none⟩=some (.slice V.C c.ents.length V.a)∧W'.cell? ⟨l,4,none⟩=some (.slice V.B c.grps.length V.b)∧W'.cell? ⟨l,5,none⟩=some (.int .i64 c.base)∧W'.cell? ⟨l,6,none⟩=some (.int .i64 c.second)∧W'.cell? ⟨l,7,none⟩=some (.int .i64 c.third)∧W'.cell? ⟨l,8,none⟩=some (.int .i64 o.st)∧W'.cell? ⟨l,9,none⟩=some (.int .i64 o.va)∧W'.cell? ⟨l,10,none⟩=some (.bool o.bk)∧W'.cell? ⟨l,11,none⟩=some (.bool o.idn)∧Below w.heap.size w W') (by kernel_rfl) (SH.out _ ((Below.refl _ _).drew)) (fun hHeld=>?_)
 refine tK 0 5 ?_
 refine tK 1 6 ?_
 refine tK 2 7 ?_
 refine tK 3 8 ?_
 refine tK 4 9 ?_
 refine tK 5 10 ?_
 refine tK 6 11 ?_
 refine tK 7 12 ?_
 refine tK 8 13 ?_
 refine tK 9 14 ?_
 refine tK 10 15 ?_
 refine tK 11 16 ?_
 refine tK 12 17 ?_
 refine qE 13 18 (TK.out _ hHeld.2.2.2.2.2.2.2.2.2.2.2.2) ?_
 clear hHeld
 rintro _ W5 hHeld ⟨A5,c5,rfl,hO5,hb5⟩
 refine tK 14 4 ?_
 refine wpAnyH_done (by kernel_rfl) ?_ _
 clear hHeld SH TK
 go_wp2_with fail
 go_ret
 exact ⟨A5,c5,rfl,hO5,hb5⟩
theorem slPlace1_any {w:World} {l bs:Nat} {V:LsV} {mb:Nat} {O:Option Addr} {oc cnt:Nat} {x:Nrm} {c:Col} {o:Opt} {f:Int→Option Value} {L:Its} (h:Lst w l bs V mb O oc cnt x c o f L) (b1 b2 b3:Nat) (D:Option Addr) (dk:Nat) (k:List Int) (id:Int) (i:Nat) (h1:Box w b1 51 [.pointer (some ⟨l,0,none⟩)]) (h2:Box w b2 37 [.slice D k.length dk]) (h3:Box w b3 3 [.int .i64 id]) (hD:Ints w D k) (hbig:k.length≤9223372036854775807) (hi:i < L.length) :
  Calls Tryz.prog 105 #[.int .i64 i,.pointer (some ⟨b1,0,none⟩),.pointer (some ⟨b2,0,none⟩),.pointer (some ⟨b3,0,none⟩)] w (RetBool (decide (¬ltI (kyN x c o L[i].2,L[i].1) (k,id))) w):=by
 obtain ⟨g,rfl,hg1,hg2,hcell⟩:=h.at hi
 obtain ⟨T,tk,K,kk,hf,hT,hK⟩:=h.get hi
 have hid':=(h.ok _ (List.getElem_mem hi)).1
 have hkl:=kyN_len x c o L[i].2
 have htl:=(h.ok _ (List.getElem_mem hi)).2.1
 have X0:=h.box
 unfold lsC at X0
 have l0:=X0.lt
 have HM:=Lib.hid (fun W (hb:Below w.heap.size w W)=>(h.map.is.below hb:MapI W mb cnt f))
 have OG:=Lib.hid (or_geq (kyN x c o L[i].2,L[i].1) (k,id))
 have hL100:=h.len
 dsimp only at OG
 generalize kyN x c o L[i].2=ky at *
 generalize L[i].2.length=tl at *
 generalize L[i].1=id' at *
 have HID:=Lib.hid hid'
 have HF:=Lib.hid hf
 have q1:=h1.cell (i:=0) rfl
 have l1:=h1.lt
 have l2:=h2.lt
 have l3:=h3.lt
 have c13:=X0.cell (i:=13) rfl
 have SH:=Lib.hid (fun W' (hb':Below w.heap.size w W')=>show W'.cell? ⟨b1,0,none⟩=some (.pointer (some ⟨l,0,none⟩))∧W'.cell? ⟨b2,0,none⟩=some (.slice D k.length dk)∧W'.cell? ⟨b3,0,none⟩=some (.int .i64 id)∧W'.cell? ⟨l,12,none⟩=some (.map (some mb))∧Below w.heap.size w W' from ⟨(h1.below hb' l1).cell (i:=0) rfl,(h2.below hb' l2).cell (i:=0) rfl,(h3.below hb' l3).cell (i:=0) rfl,(X0.below hb' l0).cell (i:=12) rfl,hb'⟩)
 have TC1:=Lib.hid (fun W (hb':Below w.heap.size w W)=>(cpCompare_any K D ky.length k.length kk dk ky k W (hK.1.below hb') (hD.below hb') rfl rfl (by omega) hbig).mono (R':=fun e W'=>e=.returned (.int .i64 (cmpL ky k))∧(W'.cell? ⟨b1,0,none⟩=some (.pointer (some ⟨l,0,none⟩))∧W'.cell? ⟨b2,0,none⟩=some (.slice D k.length dk)∧W'.cell? ⟨b3,0,none⟩=some (.int .i64 id)∧W'.cell? ⟨l,12,none⟩=some (.map (some mb))∧Below w.heap.size w W')) (fun e W' hh=>⟨hh.1,SH.out W' (hb'.trans (hh.2.below.mono hb'.size))⟩))
 have TC2:=Lib.hid (fun W (hb':Below w.heap.size w W)=>(cmpCompare_any id' id W).mono (R':=fun e W'=>e=.returned (.int .i64 (cmpI id' id))∧(W'.cell? ⟨b1,0,none⟩=some (.pointer (some ⟨l,0,none⟩))∧W'.cell? ⟨b2,0,none⟩=some (.slice D k.length dk)∧W'.cell? ⟨b3,0,none⟩=some (.int .i64 id)∧W'.cell? ⟨l,12,none⟩=some (.map (some mb))∧Below w.heap.size w W')) (fun e W' hh=>⟨hh.1,SH.out W' (hh.2 ▸ hb')⟩))
 have TC3:=Lib.hid (fun (B:Nat) W (hb':Below w.heap.size w W) (hB:Ints W (some ⟨B,0,none⟩) [cmpL ky k,cmpI id' id])=>(or2_any B 2 (cmpL ky k) (cmpI id' id) W hB).mono (R':=fun e W'=>e=.returned (.int .i64 (orI (cmpL ky k) (cmpI id' id)))∧(W'.cell? ⟨b1,0,none⟩=some (.pointer (some ⟨l,0,none⟩))∧W'.cell? ⟨b2,0,none⟩=some (.slice D k.length dk)∧W'.cell? ⟨b3,0,none⟩=some (.int .i64 id)∧W'.cell? ⟨l,12,none⟩=some (.map (some mb))∧Below w.heap.size w W')) (fun e W' hh=>⟨hh.1,SH.out W' (hh.2 ▸ hb')⟩))
 generalize cmpL ky k=c1 at *
 generalize cmpI id' id=c2 at *
 generalize orI c1 c2=ov at *
 clear h h1 h2 h3 hD hf hT hK X0 hid' hkl htl
 go_enter Tryz.func105,Tryz.ntmps105
 go_upto_region 2 with (fail)
 refine wp_region_held_drew (S:=fun W'=>W'.cell? ⟨b1,0,none⟩=some (.pointer (some ⟨l,0,none⟩))∧W'.cell? ⟨b2,0,none⟩=some (.slice D k.length dk)∧W'.cell? ⟨b3,0,none⟩=some (.int .i64 id)∧W'.cell? ⟨l,12,none⟩=some (.map (some mb))∧Below w.heap.size w W') (by kernel_rfl) (SH.out _ ((Below.refl _ _).drew)) (fun hHeld=>?_)
 refine tK 0 14 ?_
 refine tK 1 15 ?_
 refine tK 2 16 ?_
 refine tK 3 17 ?_
 refine tK 4 18 ?_
 refine anyH_look (i:=5) (v:=.agg #[.slice T tl tk,.slice K ky.length kk]) (some 19) rfl rfl (by kernel_rfl) (by kernel_rfl) (by kernel_rfl) (fun _ _ _ h=>h) (by rfl) (by assumption) _ _ 90 rfl (fun W hS=>HM.out W hS.2.2.2.2) law_int Tryz.underlying90 zero_item rfl rfl HID.out (key_int HID.out) (by rw [HF.out];rfl) ?_
 try simp only [Act.put,List.setIfInBounds_toArray,List.set_cons_zero,List.set_cons_succ]
 refine anyH_take (i:=6) (v:=.slice K ky.length kk) (some 20) rfl rfl (by kernel_rfl) (by kernel_rfl) (by kernel_rfl) (fun _ _ _ h=>h) (by rfl) (by assumption) (fun W _=>fld1 _ _ W) ?_
 try simp only [Act.put,List.setIfInBounds_toArray,List.set_cons_zero,List.set_cons_succ]
 refine tK 7 21 ?_
 refine tK 9 23 ?_
 refine tK 10 24 ?_
 refine qK 8 22 (TC1.out _ hHeld.2.2.2.2) ?_
 clear hHeld
 intro W5 hHeld
 refine qK 11 25 (TC2.out _ hHeld.2.2.2.2) ?_
 clear hHeld
 intro W6 hHeld
 have Sn:=SH.out (W6.alloc (.cells #[.int .i64 c1,.int .i64 c2] 3)) (hHeld.2.2.2.2.alloc hHeld.2.2.2.2.size _)
 have HI2:=Lib.hid (show Ints (W6.alloc (.cells #[.int .i64 c1,.int .i64 c2] 3)) (some ⟨W6.heap.size,0,none⟩) [c1,c2] from Ints_new W6 [c1,c2] 3 rfl)
 refine anyH_val (w':=(W6.alloc (.cells #[.int .i64 c1,.int .i64 c2] 3))) (v:=.slice (some ⟨W6.heap.size,0,none⟩) 2 2) (i:=12) (some 26) rfl rfl (by kernel_rfl) (by rfl) (by go_simp) Sn ?_
 clear hHeld
 have hHeld:=Sn
 try simp only [Act.put,List.setIfInBounds_toArray,List.set_cons_zero,List.set_cons_succ]
 refine qK 13 27 (TC3.out _ _ hHeld.2.2.2.2 HI2.out) ?_
 clear hHeld
 intro W7 hHeld
 refine tK 14 28 ?_
 refine tK 15 5 ?_
 refine wpAnyH_done (by kernel_rfl) ?_ _
 have hbf:=hHeld.2.2.2.2
 clear hHeld SH TC1 TC2 TC3
 go_wp2_with fail
 go_ret
 exact ⟨ret_bool OG.out,hbf⟩
theorem found_plc {K:List Int→List Int} {L:Its} (h:Srt K L) {n r:Nat} (hn:n=L.length) {q:It} (hf:Found n (fun i=>decide (¬ltI ((kL K L).getD i ([],0)) q)) r):r=plc (kL K L) q:=by
 subst hn
 have hl:=kL_len (K:=K) (L:=L)
 have hp:plc (kL K L) q≤L.length:=by unfold plc;exact Nat.le_trans (cnt_le _) (by omega)
 have gd:∀i,(hi:i < (kL K L).length)→(kL K L).getD i ([],0)=(kL K L)[i]:=fun i hi=>by simp [List.getD,hi]
 have h1:=hf.le
 rcases Nat.lt_trichotomy r (plc (kL K L) q) with g | g | g
 ·have:=hf.hi r (Nat.le_refl _) (by omega)
  rw [gd r (by omega),decide_eq_true_eq] at this
  exact absurd ((plc_iff h.asc q r (by omega)).2 g) this
 ·exact g
 ·have:=hf.lo _ g
  rw [gd _ (by omega),decide_eq_false_iff_not,Classical.not_not] at this
  have:=(plc_iff h.asc q (plc (kL K L) q) (by omega)).1 this
  omega
theorem slPlace_any {w:World} {l bs:Nat} {V:LsV} {mb:Nat} {O:Option Addr} {oc cnt:Nat} {x:Nrm} {c:Col} {o:Opt} {f:Int→Option Value} {L:Its} (h:Lst w l bs V mb O oc cnt x c o f L) (D:Option Addr) (dk:Nat) (k:List Int) (id:Int) (hD:Ints w D k) (hbig:k.length≤9223372036854775807) :
  Calls Tryz.prog 51 #[.pointer (some ⟨l,0,none⟩),.slice D k.length dk,.int .i64 id] w (RetInt (plc (kL (kyN x c o) L) (k,id):Nat) w):=by
 have B0:Below w.heap.size w (((w.alloc (.cells #[.pointer (some ⟨l,0,none⟩)] 51)).alloc (.cells #[.slice D k.length dk] 37)).alloc (.cells #[.int .i64 id] 3)):=(((Below.refl _ _).alloc (Nat.le_refl _) _).alloc (by simp) _).alloc (by simp <;> omega) _
 have X0:Box (((w.alloc (.cells #[.pointer (some ⟨l,0,none⟩)] 51)).alloc (.cells #[.slice D k.length dk] 37)).alloc (.cells #[.int .i64 id] 3)) w.heap.size 51 [.pointer (some ⟨l,0,none⟩)]:=bx_alloc (bx_alloc (Box.new w 51 [.pointer (some ⟨l,0,none⟩)] rfl) _) _
 have X1:Box (((w.alloc (.cells #[.pointer (some ⟨l,0,none⟩)] 51)).alloc (.cells #[.slice D k.length dk] 37)).alloc (.cells #[.int .i64 id] 3)) (w.heap.size+1) 37 [.slice D k.length dk]:=bx_alloc (Box.new _ 37 [.slice D k.length dk] (by simp)) _
 have X2:Box (((w.alloc (.cells #[.pointer (some ⟨l,0,none⟩)] 51)).alloc (.cells #[.slice D k.length dk] 37)).alloc (.cells #[.int .i64 id] 3)) (w.heap.size+1+1) 3 [.int .i64 id]:=Box.new _ _ _ (by simp)
 have W0E:∃W0,(((w.alloc (.cells #[.pointer (some ⟨l,0,none⟩)] 51)).alloc (.cells #[.slice D k.length dk] 37)).alloc (.cells #[.int .i64 id] 3))=W0:=⟨_,rfl⟩
 have HH:=Lib.hid h
 have HD:=Lib.hid hD
 have FP:=Lib.hid (fun r (hf:Found L.length (fun i=>decide (¬ltI ((kL (kyN x c o) L).getD i ([],0)) (k,id))) r)=>found_plc h.srt rfl hf)
 have HS:=Lib.hid (fun i (hi:i < L.length)=>plc_iff h.srt.asc (k,id) i (by rw [kL_len];exact hi))
 have hb:=h.box
 unfold lsC at hb
 have l0:=hb.lt
 have hL100:=h.len
 clear h hD
 go_enter Tryz.func51,Tryz.ntmps51
 go_upto_region 1 with (fail)
 obtain ⟨W0,hW0⟩:=W0E
 try rw [hW0] at B0 X0 X1 X2 ⊢
 clear hW0
 have q0:=X0.cell (i:=0) rfl
 have c13:=(hb.below B0 l0).cell (i:=13) rfl
 have e0:=X0.lt
 have e1:=X1.lt
 have e2:=X2.lt
 have SC:=Lib.hid (search_any 105 #[.pointer (some ⟨w.heap.size,0,none⟩),.pointer (some ⟨w.heap.size+1,0,none⟩),.pointer (some ⟨w.heap.size+1+1,0,none⟩)] L.length (fun i=>decide (¬ltI ((kL (kyN x c o) L).getD i ([],0)) (k,id))) W0 (enters_of Tryz.func105 (by kernel_rfl) rfl) (by omega)
  (fun i W hi hb'=>by
   have h1:=slPlace1_any (HH.out.below (B0.trans (hb'.mono B0.size))) w.heap.size (w.heap.size+1) (w.heap.size+1+1) D dk k id i (X0.below hb' e0) (X1.below hb' e1) (X2.below hb' e2) (HD.out.below (B0.trans (hb'.mono B0.size))) hbig hi
   have e:(kL (kyN x c o) L).getD i ([],0)=(kyN x c o L[i].2,L[i].1):=by
    have hi':i < (kL (kyN x c o) L).length:=by rw [kL_len];exact hi
    rw [show (kL (kyN x c o) L).getD i ([],0)=(kL (kyN x c o) L)[i] by simp [List.getD,hi'],kL_get i hi]
   rw [e]
   exact h1)
  (fun a b hab hb h=>by
   have gd:∀i,(hi:i < L.length)→(kL (kyN x c o) L).getD i ([],0)=(kL (kyN x c o) L)[i]'(by rw [kL_len];exact hi):=fun i hi=>by simp [List.getD,show i < (kL (kyN x c o) L).length by rw [kL_len];exact hi]
   have ha:a < L.length:=by omega
   simp only [gd a ha,gd b hb,decide_eq_true_eq] at h ⊢
   rw [HS.out a ha] at h
   rw [HS.out b hb]
   omega))
 clear HH HD HS X0 X1 X2 hb
 go_wp2_with fail
 with_reducible refine SC.out.mono ?_
 rintro e w1 ⟨r,rfl,hf,hb1⟩
 obtain rfl:=FP.out r hf
 clear SC FP hf q0 c13
 go_wp2_with fail
 go_ret
 exact ⟨rfl,B0.trans (hb1.mono B0.size)⟩
theorem slPosition_any {w:World} {l bs:Nat} {V:LsV} {mb:Nat} {O:Option Addr} {oc cnt:Nat} {x:Nrm} {c:Col} {o:Opt} {f:Int→Option Value} {L:Its} (h:Lst w l bs V mb O oc cnt x c o f L) (id:Int) (hid:iok id) :
  Calls Tryz.prog 102 #[.pointer (some ⟨l,0,none⟩),.int .i64 id] w (RetInt (posL L id) w):=by
 have X0:=h.box
 unfold lsC at X0
 have l0:=X0.lt
 have HM:=Lib.hid (show MapI w mb cnt f from h.map.is)
 have HID:=Lib.hid hid
 have c12:=X0.cell (i:=12) rfl
 by_cases hin:id ∈ idsL L
 ·obtain ⟨p,hp,hpe⟩:=List.mem_map.1 hin
  obtain ⟨T,tk,K,kk,hf,hT,hK⟩:=h.item p hp
  have hok:=h.ok p hp
  obtain ⟨id',t⟩:=p
  dsimp only at *
  subst hpe
  have HF:=Lib.hid hf
  have hkl:=kyN_len x c o t
  have B0:Below w.heap.size w (w.alloc (.cells #[.slice T t.length tk,.slice K (kyN x c o t).length kk] 94)):=(Below.refl _ _).alloc (Nat.le_refl _) _
  have X1:Box (w.alloc (.cells #[.slice T t.length tk,.slice K (kyN x c o t).length kk] 94)) w.heap.size 94 [.slice T t.length tk,.slice K (kyN x c o t).length kk]:=Box.new w 94 [.slice T t.length tk,.slice K (kyN x c o t).length kk] rfl
  have W0E:∃W0,(w.alloc (.cells #[.slice T t.length tk,.slice K (kyN x c o t).length kk] 94))=W0:=⟨_,rfl⟩
  have PP:=Lib.hid (posL_plc h.srt hp).1
  have PC:=Lib.hid (fun W (hb:Below w.heap.size w W)=>slPlace_any (h.below hb) K kk (kyN x c o t) id' (hK.1.below hb) (by omega))
  rw [←PP.out] at PC
  have hgen:∃ps,posL L id'=ps:=⟨_,rfl⟩
  obtain ⟨ps,hps⟩:=hgen
  rw [hps] at PC ⊢
  generalize kyN x c o t=ky at *
  clear h hT hK X0 hin hp hok hf hkl hid PP hps
  go_enter Tryz.func102,Tryz.ntmps102
  go_upto_region 4 with (at_lookup;refine wpList_lookOk rfl _ _ 90 rfl HM.out law_int Tryz.underlying90 (zero_item _) rfl rfl HID.out (key_int HID.out) ?_;rw [HF.out];first | rw [Option.getD_some,Option.isSome_some] | rw [Option.getD_none,Option.isSome_none])
  obtain ⟨W0,hW0⟩:=W0E
  try rw [hW0] at B0 X1 ⊢
  clear hW0 c12
  have d1:=X1.cell (i:=1) rfl
  clear X1 l0
  go_wp2_with fail
  with_reducible refine (PC.out W0 B0).mono ?_
  rintro e w1 ⟨rfl,hb1⟩
  have hbf:=B0.trans (hb1.mono B0.size)
  clear d1 PC hb1 B0
  go_wp2_with fail
  go_ret
  exact ⟨rfl,hbf⟩
 ·have HF:=Lib.hid (h.gone id hid hin)
  have PP:=Lib.hid (posL_none hin)
  have B0:Below w.heap.size w (w.alloc (.cells #[.slice none 0 0,.slice none 0 0] 94)):=(Below.refl _ _).alloc (Nat.le_refl _) _
  rw [PP.out]
  clear h X0 hid hin PP
  go_enter Tryz.func102,Tryz.ntmps102
  go_wp2_with (at_lookup;refine wpList_lookOk rfl _ _ 90 rfl HM.out law_int Tryz.underlying90 (zero_item _) rfl rfl HID.out (key_int HID.out) ?_;rw [HF.out];first | rw [Option.getD_some,Option.isSome_some] | rw [Option.getD_none,Option.isSome_none])
  go_ret
  exact ⟨rfl,B0⟩
theorem slItems_own {w:World} {l bs:Nat} {V:LsV} {mb:Nat} {O:Option Addr} {oc cnt:Nat} {x:Nrm} {c:Col} {o:Opt} {f:Int→Option Value} {L:Its} (h:Lst w l bs V mb O oc cnt x c o f L)  :
  Calls Tryz.prog 20 #[.pointer (some ⟨l,0,none⟩)] w (RetOwnI (idsL L) w):=by
 have X0:=h.box
 unfold lsC at X0
 have c13:=X0.cell (i:=13) rfl
 have hil:=idsL_len (L:=L)
 have hL100:=h.len
 have PC:=Lib.hid (cloneI_any O L.length oc (idsL L) w h.ids hil (by omega))
 unfold RetOwnI at PC ⊢
 rw [hil] at PC ⊢
 clear h X0 hil
 go_enter Tryz.func20,Tryz.ntmps20
 go_wp2_with fail
 with_reducible refine PC.out.mono ?_
 rintro e w1 ⟨E,d,rfl,hE,hb1⟩
 clear PC c13
 go_wp2_with fail
 go_ret
 exact ⟨E,d,rfl,hE,hb1⟩
end Go.Proofs.YtijgbonhjcblcaaGreatDoor
namespace Go.Proofs.YtijgbonhjcblcaaGreatDoor
open Go.Shelf Go.RowKit
def layIns_ren:Ren:=⟨fun | 21=>53 | 27=>107 | 28=>108 | 35=>138 | 39=>67 | n=>n,fun | 0=>0 | 3=>3 | 4=>4 | 22=>37 | n=>n,fun n=>n⟩
theorem layIns:Lays2.n21 Tryz.prog layIns_ren:={
 mixed:=by kernel_rfl,
 f21:=Tryz.func53.trans (congrArg some (by kernel_rfl)),
 f27:=Tryz.func107.trans (congrArg some (by kernel_rfl)),
 f28:=Tryz.func108.trans (congrArg some (by kernel_rfl)),
 f35:=Tryz.func138.trans (congrArg some (by kernel_rfl)),
 f39:=Tryz.func67.trans (congrArg some (by kernel_rfl)),
 t0:=Tryz.underlying0,
 a0:=Tryz.isAgg0,
 z0:=Tryz.sizeOf0,
 v0:=Tryz.zeroValue0,
 t3:=Tryz.underlying3,
 a3:=Tryz.isAgg3,
 z3:=Tryz.sizeOf3,
 v3:=Tryz.zeroValue3,
 t4:=Tryz.underlying4,
 a4:=Tryz.isAgg4,
 z4:=Tryz.sizeOf4,
 v4:=Tryz.zeroValue4,
 t22:=Tryz.underlying37,
 a22:=Tryz.isAgg37,
 z22:=Tryz.sizeOf37,
 v22:=Tryz.zeroValue37,
 i3:=by kernel_rfl }
def layDel_ren:Ren:=⟨fun | 23=>103 | n=>n,fun | 0=>0 | 3=>3 | 4=>4 | 22=>37 | n=>n,fun n=>n⟩
theorem layDel:Lays2.n23 Tryz.prog layDel_ren:={
 mixed:=by kernel_rfl,
 f23:=Tryz.func103.trans (congrArg some (by kernel_rfl)),
 t0:=Tryz.underlying0,
 a0:=Tryz.isAgg0,
 z0:=Tryz.sizeOf0,
 v0:=Tryz.zeroValue0,
 t3:=Tryz.underlying3,
 a3:=Tryz.isAgg3,
 z3:=Tryz.sizeOf3,
 v3:=Tryz.zeroValue3,
 t4:=Tryz.underlying4,
 a4:=Tryz.isAgg4,
 z4:=Tryz.sizeOf4,
 v4:=Tryz.zeroValue4,
 t22:=Tryz.underlying37,
 a22:=Tryz.isAgg37,
 z22:=Tryz.sizeOf37,
 v22:=Tryz.zeroValue37,
 i3:=by kernel_rfl }
theorem box_setCells {b:Nat} {t:TypeId}:∀(vs:List Value) (o:Nat) {w:World} {cs:List Value},Box w b t cs→o+vs.length≤cs.length→Box (w.setCells b o vs) b t (splice cs o vs)
 | [],o,w,cs,h,_=>by simpa [World.setCells,splice] using h
 | v::r,o,w,cs,h,hl=>by
  rw [List.length_cons] at hl
  have h1:=box_setCells r (o+1) (h.set o v) (by rw [List.length_set];omega)
  have e:splice (cs.set o v) (o+1) r=splice cs o (v::r):=by
   unfold splice
   rw [List.length_cons,List.take_set,List.drop_set]
   rw [if_pos (by omega)]
   have e1:(cs.take (o+1)).set o v=cs.take o++[v]:=by
    rw [List.take_succ_eq_append_getElem (by omega),List.set_append_right _ _ (by rw [List.length_take];omega),List.length_take,Nat.min_eq_left (by omega),Nat.sub_self]
    rfl
   rw [e1,List.append_assoc,show o+1+r.length=o+(r.length+1) by omega]
   rfl
  rw [e] at h1
  exact h1
theorem grown_setCells {b:Nat}:∀(vs:List Value) (o:Nat) {a w:World},a.grownBy w (some b)→a.grownBy (w.setCells b o vs) (some b)
 | [],_,_,_,h=>h
 | _::r,o,_,_,h=>grown_setCells r (o+1) (grownR_trans h (grown_set _ ⟨b,o,none⟩ _))
theorem ins_splice {L D:List Value} {i n:Nat} {x:Value} (hD:D.length=n) (hL:L.take n=D) (hl:n+1≤L.length) (hi:i≤n):(splice (splice L (i+1) (D.drop i)) i [x]).take (n+1)=D.take i++x::D.drop i∧(splice (splice L (i+1) (D.drop i)) i [x]).length=L.length:=by
 have h1:i+1+(D.drop i).length=n+1:=by rw [List.length_drop];omega
 have l1:(splice L (i+1) (D.drop i)).length=L.length:=length_splice _ _ _ (by omega)
 refine ⟨?_,by rw [length_splice _ _ _ (by rw [l1];simp;omega),l1]⟩
 have ei:L.take i=D.take i:=by rw [←hL,List.take_take,Nat.min_eq_left hi]
 have e1:(splice L (i+1) (D.drop i)).take i=D.take i:=by
  unfold splice
  rw [List.take_append_of_le_length (by rw [List.length_take];omega),List.take_take,Nat.min_eq_left (by omega),ei]
 have e2:(splice L (i+1) (D.drop i)).drop (i+1)=D.drop i++L.drop (n+1):=by
  unfold splice
  rw [List.drop_append_of_le_length (by rw [List.length_take];omega),List.drop_of_length_le (by rw [List.length_take];omega),List.nil_append,h1]
 unfold splice at *
 rw [List.length_singleton,e1,e2,List.take_append,List.length_take]
 have hmi:min i D.length=i:=by omega
 rw [hmi,List.take_of_length_le (by rw [List.length_take];omega)]
 congr 1
 rw [List.singleton_append,show n+1 - i=(n - i)+1 by omega,List.take_succ_cons,List.take_append_of_le_length (by rw [List.length_drop];omega),List.take_of_length_le (by rw [List.length_drop];omega)]
theorem Box.newA (w:World) (t:TypeId) (Z:Array Value):Box (w.alloc (.cells Z t)) w.heap.size t Z.toList:=by
 show (w.heap.push _)[w.heap.size]?=_
 simp
theorem gr_setCells_new {b:Nat}:∀(vs:List Value) (o:Nat) {a w:World} {r:Option Nat},a.grownBy w r→a.heap.size≤b→a.grownBy (w.setCells b o vs) r
 | [],_,_,_,_,h,_=>h
 | _::r,o,_,_,_,h,hb=>gr_setCells_new r (o+1) (gr_new h ⟨b,o,none⟩ hb _) hb
theorem grow_splice {L D:List Value} {i n:Nat} {x:Value} (hD:D.length=n) (hL:L.take i=D.take i) (hl:n+1≤L.length) (hi:i≤n):(splice (splice L i [x]) (i+1) (D.drop i)).take (n+1)=D.take i++x::D.drop i∧(splice (splice L i [x]) (i+1) (D.drop i)).length=L.length:=by
 have h1:i+1+(D.drop i).length=n+1:=by rw [List.length_drop];omega
 have l1:(splice L i [x]).length=L.length:=length_splice _ _ _ (by simp;omega)
 refine ⟨?_,by rw [length_splice _ _ _ (by omega),l1]⟩
 have e1:(splice L i [x]).take (i+1)=D.take i++[x]:=by
  unfold splice
  rw [hL,List.singleton_append,List.take_append,List.length_take,show min i D.length=i by omega,List.take_of_length_le (by rw [List.length_take];omega),show i+1 - i=1 by omega]
  rfl
 unfold splice at *
 rw [e1,←List.append_assoc,List.take_append_of_le_length (by simp;omega),List.take_of_length_le (by simp;omega)]
 simp
theorem own_of_box {w:World} {base g n c:Nat} {L:List Value} {D:List Int} (h:Box w g 3 L) (hb:base≤g) (hc:L.length=c) (hn:n≤c) (hm:c≤maxLen) (ht:L.take n=D.map (Value.int .i64)) (hD:D.length=n):w.ownsRow base 3 1 (.slice (some ⟨g,0,none⟩) n c) n (D.map (Value.int .i64)):=
 ⟨by simp [hD],.inr ⟨g,c,L.toArray,rfl,hb,h,hn,hm,by simp [hc],by simpa using ht⟩⟩
def insL (d:List Int) (i:Nat) (x:Int):List Int:=d.take i++x::d.drop i
theorem insL_len {d:List Int} {i:Nat} {x:Int} (h:i≤d.length):(insL d i x).length=d.length+1:=by unfold insL;simp;omega
theorem insL_map (d:List Int) (i:Nat) (x:Int):(insL d i x).map (Value.int .i64)=(d.map (Value.int .i64)).take i++.int .i64 x::(d.map (Value.int .i64)).drop i:=by unfold insL;simp
def RetIns (d:List Int) (i:Nat) (x:Int) (base:Nat) (A:Option Addr) (w:World) (e:Ending) (w':World):Prop:=∃B k,e=.returned (.slice B (d.length+1) k)∧w'.ownsRow base 3 1 (.slice B (d.length+1) k) (d.length+1) ((insL d i x).map (Value.int .i64))∧w.grownBy w' (blk A)∧(blk B=blk A∨B=some ⟨w.heap.size,0,none⟩)
theorem ins_own (A:Option Addr) (n c base i:Nat) (d:List Int) (x:Int) (vb vc:Nat) (w:World) (h:w.ownsRow base 3 1 (.slice A n c) n (d.map (Value.int .i64))) (hbase:base≤w.heap.size) (hn:d.length=n) (hi:i≤n) (hv:Box w vb 3 [.int .i64 x]) (hvb:∀g,blk A=some g→vb≠g) (hb:n≤1048576) :
  Calls Tryz.prog 53 #[.slice A n c,.int .i64 i,.slice (some ⟨vb,0,none⟩) 1 vc] w (RetIns d i x base A w):=by
 subst hn
 have hvs:∀j v,[Value.int .i64 x][j]?=some v→w.cell? ⟨vb,0+j,none⟩=some v:=fun j v hj=>by rw [Nat.zero_add];exact hv.cell hj
 have h1v:∀v ∈ [Value.int .i64 x],v.oneCell'=true:=by intro v hv;simp at hv;subst hv;rfl
 obtain ⟨_,_,hv0,hnc⟩:=own_form h
 injection hv0 with _ _ hv0
 subst hv0
 have hln:(d.map (Value.int .i64)).length=d.length:=by simp
 have hcm:c≤maxLen:=by
  rcases h.2 with ⟨hv,_⟩ | ⟨g,cap,cur,hv,_,_,_,h5,_⟩
  ·injection hv with _ _ hv;omega
  ·injection hv with _ _ hv;omega
 by_cases hroom:d.length+1≤c
 ·rcases h.2 with ⟨hv,_⟩ | ⟨g,cap,cur,hv,h1,h2,h3,h4,h5,h6⟩
  ·injection hv with _ _ hv;omega
  ·injection hv with hA _ hc
   subst hA;subst hc
   simp only [Nat.mul_one] at h5 h6
   have hX:Box w g 3 cur.toList:=h2
   have hcl:cur.toList.length=c:=by simpa using h5
   have hsz:∀j,j < c→(w.cell? ⟨g,0+j,none⟩).isSome=true:=fun j hj=>by rw [Nat.zero_add,hX.cell (List.getElem?_eq_getElem (by omega))];rfl
   have hne:vb≠g:=hvb g rfl
   by_cases hin:i < d.length
   ·refine (Any2.slices_Insert_int_shift layIns g 0 d.length c i vb 0 1 vc (d.map (Value.int .i64)) [.int .i64 x] w hin (by omega) hroom (by unfold maxLen at hcm;omega) hne hln rfl (fun j v hj=>?_) (fun j hj=>hsz j (by omega)) (fun j _=>hX.free _) hvs (oneCell_ints _) h1v 3 3 1 c (by unfold Box at hv;simp [World.shape?,hv]) (by unfold Box at hX;simp [World.shape?,hX,h5]) (by omega) (hv.free _) (hv.free _)).mono ?_
    ·rw [←h6] at hj
     rw [Nat.zero_add]
     exact hX.cell (by rw [List.getElem?_take] at hj;split at hj;exact hj;cases hj)
    ·rintro e w' ⟨rfl,rfl⟩
     obtain ⟨s1,s2⟩:=ins_splice (x:=.int .i64 x) hln h6 (by omega) hi
     have hX1:Box w.drew g 3 cur.toList:=hX
     have hX2:=box_setCells ((d.map (Value.int .i64)).drop i) (0+(i+1)) hX1 (by simp;omega)
     have hX3:=box_setCells [.int .i64 x] (0+i) hX2 (by rw [length_splice _ _ _ (by simp;omega)];simp;omega)
     rw [show 0+(i+1)=i+1 by omega,show 0+i=i by omega] at hX3
     rw [show 0+(i+1)=i+1 by omega,show 0+i=i by omega]
     refine ⟨_,_,rfl,own_of_box hX3 h1 (by rw [s2,hcl]) hroom hcm (by rw [s1,insL_map]) (insL_len hi),grown_setCells _ _ (grown_setCells _ _ (grownR_drew (grownR_refl w _))),.inl rfl⟩
   ·obtain rfl:i=d.length:=by omega
    refine (Any2.slices_Insert_int_end_room layIns g 0 d.length c vb 0 1 vc [.int .i64 x] w (by omega) hroom (by unfold maxLen at hcm;omega) rfl (fun j hj=>?_) (fun j _=>hX.free _) hvs h1v).mono ?_
    ·have:=hsz (d.length+j) (by omega)
     rw [Nat.zero_add] at this ⊢
     exact this
    ·rintro e w' ⟨rfl,rfl⟩
     have hX3:=box_setCells [.int .i64 x] (0+d.length) hX (by simp;omega)
     rw [Nat.zero_add] at hX3 ⊢
     obtain ⟨s1,s2⟩:=ins_splice (i:=d.length) (x:=.int .i64 x) hln h6 (by omega) (Nat.le_refl _)
     have e0:splice cur.toList (d.length+1) ((d.map (Value.int .i64)).drop d.length)=cur.toList:=by
      rw [List.drop_of_length_le (by simp)]
      unfold splice
      simp
     rw [e0] at s1 s2
     refine ⟨_,_,rfl,own_of_box hX3 h1 (by rw [s2,hcl]) hroom hcm (by rw [s1,insL_map]) (insL_len (Nat.le_refl _)),grown_setCells _ _ (grownR_refl w _),.inl rfl⟩
 ·have hG1:=grownCap_ge w (d.length+1) c 3
  have hG2:=grownCap_le_maxLen w (d.length+1) c 3 (by unfold maxLen;omega)
  have hcs:∀a,A=some a→∀j v,(d.map (Value.int .i64))[j]?=some v→w.cell? (a.add j)=some v:=fun a ha j v hj=>h.cells (g:=a.block) (by rw [ha];rfl) j v hj |> fun q=>by
   rcases h.2 with ⟨hv,_⟩ | ⟨g,cap,cur,hv,_⟩
   ·injection hv with hA;rw [hA] at ha;cases ha
   ·injection hv with hA;rw [hA] at ha;injection ha with ha;subst ha;exact q
  by_cases hin:i < d.length
  ·rcases h.2 with ⟨_,h0⟩ | ⟨g,cap,cur,hvv,h1,h2,h3,h4,h5,h6⟩
   ·omega
   injection hvv with hA _ hc
   subst hA
   refine (Any2.slices_Insert_int_grow layIns g 0 d.length c i vb 0 1 vc (d.map (Value.int .i64)) [.int .i64 x] w hin (by omega) hnc (by omega) (by omega) hln rfl (fun j v hj=>?_) hvs (oneCell_ints _) h1v).mono ?_
   ·have:=hcs _ rfl j v hj
    rw [Addr.add_lit] at this
    exact this
   ·rintro e w' ⟨rfl,rfl⟩
    change RetIns d i x base (some ⟨g,0,none⟩) w (.returned (.slice (some ⟨w.heap.size,0,none⟩) (d.length+1) (grownCap w (d.length+1) c 3))) (((w.alloc (.cells (((d.map (Value.int .i64)).take i).toArray++Builtin.zeroCells (Value.int .i64 0).cells (d.length+1 - i)++Builtin.zeroCells (Value.int .i64 0).cells (grownCap w (d.length+1) c 3 - (d.length+1))) 3)).drew.setCells w.heap.size i [.int .i64 x]).drew.setCells w.heap.size (i+1) ((d.map (Value.int .i64)).drop i))
    generalize grownCap w (d.length+1) c 3=G at *
    have hX0:=Box.newA w 3 (((d.map (Value.int .i64)).take i).toArray++Builtin.zeroCells (Value.int .i64 0).cells (d.length+1 - i)++Builtin.zeroCells (Value.int .i64 0).cells (G - (d.length+1)))
    have hl0:(((d.map (Value.int .i64)).take i).toArray++Builtin.zeroCells (Value.int .i64 0).cells (d.length+1 - i)++Builtin.zeroCells (Value.int .i64 0).cells (G - (d.length+1))).toList.length=G:=by
     have e1:=size_zeroCells (Value.int .i64 0).cells (d.length+1 - i)
     have e2:=size_zeroCells (Value.int .i64 0).cells (G - (d.length+1))
     have e3:(Value.int .i64 0).cells.size=1:=rfl
     rw [e3] at e1 e2
     rw [Array.length_toList,Array.size_append,Array.size_append,e1,e2]
     simp
     omega
    have ht0:(((d.map (Value.int .i64)).take i).toArray++Builtin.zeroCells (Value.int .i64 0).cells (d.length+1 - i)++Builtin.zeroCells (Value.int .i64 0).cells (G - (d.length+1))).toList.take i=(d.map (Value.int .i64)).take i:=by
     rw [Array.toList_append,Array.toList_append,List.append_assoc,List.take_append_of_le_length (by simp;omega),List.take_of_length_le (by simp;omega)]
    generalize (((d.map (Value.int .i64)).take i).toArray++Builtin.zeroCells (Value.int .i64 0).cells (d.length+1 - i)++Builtin.zeroCells (Value.int .i64 0).cells (G - (d.length+1)))=Z at *
    have hX1:Box (w.alloc (.cells Z 3)).drew w.heap.size 3 Z.toList:=hX0
    have hX2:=box_setCells [.int .i64 x] i hX1 (by rw [hl0];simp;omega)
    have hX3:Box ((w.alloc (.cells Z 3)).drew.setCells w.heap.size i [.int .i64 x]).drew w.heap.size 3 _:=hX2
    have hX4:=box_setCells ((d.map (Value.int .i64)).drop i) (i+1) hX3 (by rw [length_splice _ _ _ (by rw [hl0];simp;omega),hl0];simp;omega)
    obtain ⟨s1,s2⟩:=grow_splice (x:=.int .i64 x) (L:=Z.toList) hln ht0 (by rw [hl0];exact hG1) hi
    refine ⟨_,_,rfl,own_of_box hX4 hbase (by rw [s2,hl0]) hG1 hG2 (by rw [s1,insL_map]) (insL_len hi),?_,.inr rfl⟩
    exact gr_setCells_new _ _ (grownR_drew (gr_setCells_new _ _ (grownR_drew (gr_alloc (grownR_refl w _) _)) (Nat.le_refl _))) (Nat.le_refl _)
  ·obtain rfl:i=d.length:=by omega
   refine (Any2.slices_Insert_int_end_grow layIns A d.length c vb 0 1 vc (d.map (Value.int .i64)) [.int .i64 x] w (by omega) hnc (by omega) (by omega) hln rfl (fun hA=>?_) hcs hvs h1v).mono ?_
   ·rcases h.2 with ⟨_,h0⟩ | ⟨g,cap,cur,hvv,_⟩
    ·exact h0
    ·injection hvv with hA';rw [hA] at hA';cases hA'
   ·rintro e w' ⟨rfl,rfl⟩
    change RetIns d d.length x base A w (.returned (.slice (some ⟨w.heap.size,0,none⟩) (d.length+1) (grownCap w (d.length+1) c 3))) (w.drew.alloc (.cells (((d.map (Value.int .i64))++[Value.int .i64 x]).toArray++Builtin.zeroCells (Value.int .i64 0).cells (grownCap w (d.length+1) c 3 - (d.length+1))) 3))
    generalize grownCap w (d.length+1) c 3=G at *
    have hX0:Box _ w.heap.size 3 _:=Box.newA w.drew 3 (((d.map (Value.int .i64))++[Value.int .i64 x]).toArray++Builtin.zeroCells (Value.int .i64 0).cells (G - (d.length+1)))
    refine ⟨_,_,rfl,own_of_box hX0 hbase ?_ hG1 hG2 ?_ (insL_len (Nat.le_refl _)),gr_alloc (grownR_drew (grownR_refl w _)) _,.inr rfl⟩
    ·have e2:=size_zeroCells (Value.int .i64 0).cells (G - (d.length+1))
     have e3:(Value.int .i64 0).cells.size=1:=rfl
     rw [e3] at e2
     rw [Array.length_toList,Array.size_append,e2]
     simp
     omega
    ·rw [insL_map,Array.toList_append,List.take_append_of_le_length (by simp),List.take_of_length_le (by simp),List.take_of_length_le (by simp),List.drop_of_length_le (by simp)]
def delL (d:List Int) (i:Nat):List Int:=d.take i++d.drop (i+1)
theorem del_own (A:Option Addr) (n c base i:Nat) (d:List Int) (w:World) (h:w.ownsRow base 3 1 (.slice A n c) n (d.map (Value.int .i64))) (hn:d.length=n) (hi:i < n) :
  Calls Tryz.prog 103 #[.slice A n c,.int .i64 i,.int .i64 (i+1:Nat)] w (fun e w'=>e=.returned (.slice A (n - 1) c)∧w'.ownsRow base 3 1 (.slice A (n - 1) c) (n - 1) ((delL d i).map (Value.int .i64))∧w.grownBy w' (blk A)):=by
 subst hn
 rcases h.2 with ⟨_,h0⟩ | ⟨g,cap,cur,hvv,h1,h2,h3,h4,h5,h6⟩
 ·omega
 injection hvv with hA _ hc
 subst hA;subst hc
 simp only [Nat.mul_one] at h5 h6
 have hX:Box w g 3 cur.toList:=h2
 have hcl:cur.toList.length=c:=by simpa using h5
 have hc:∀j,j < d.length→w.cell? ⟨g,0+j,none⟩=some (.int .i64 (d.getD j 0)):=fun j hj=>by
  rw [Nat.zero_add]
  refine hX.cell ?_
  have e:cur.toList[j]?=(cur.toList.take d.length)[j]?:=by rw [List.getElem?_take,if_pos hj]
  rw [e,h6]
  simp [List.getD,hj]
 refine (Any.slices_Delete_int_cells layDel g 0 d.length c i (i+1) d w (Nat.le_refl _) h3 (by unfold maxLen at h4;omega) (by omega) (by omega) hc (fun j _=>hX.free _)).mono ?_
 rintro e w' ⟨he,q,rfl⟩
 rw [List.take_length] at *
 have hX1:Box (w.drewN q) g 3 cur.toList:=hX
 have hX2:=box_setCells ((d.take i++d.drop (i+1)++List.replicate (i+1 - i) 0).map (Value.int .i64)) 0 hX1 (by simp;omega)
 have hdl:(delL d i).length=d.length - 1:=by unfold delL;simp;omega
 refine ⟨by rw [he,show d.length - (i+1 - i)=d.length - 1 by omega],own_of_box hX2 h1 ?_ (by omega) h4 ?_ hdl,grown_setCells _ _ (grownR_drewN (grownR_refl w _) q)⟩
 ·rw [length_splice _ _ _ (by simp;omega),hcl]
 ·unfold splice
  rw [List.take_zero,List.nil_append,List.map_append,show d.take i++d.drop (i+1)=delL d i from rfl,List.append_assoc,List.take_append_of_le_length (by rw [List.length_map,hdl];exact Nat.le_refl _),List.take_of_length_le (by rw [List.length_map,hdl];exact Nat.le_refl _)]
end Go.Proofs.YtijgbonhjcblcaaGreatDoor
