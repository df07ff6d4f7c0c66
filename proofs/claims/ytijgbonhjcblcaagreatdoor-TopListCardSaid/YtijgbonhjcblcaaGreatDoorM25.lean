/- Texts that are merged into one file: SlPut. -/
import Derived.Test.YtijgbonhjcblcaaGreatDoorM24
set_option maxRecDepth 100000
set_option maxHeartbeats 51200000
namespace Go.Proofs.YtijgbonhjcblcaaGreatDoor
open Go.RowKit Go.Maps Go.WideMaps Srl
section
variable {P:Program} {w:World} {ops:Array Oper} {rest:List Oper} {o:Oper} {a:Act} {Q:Exit→Act→World→Prop}
theorem wpList_clen {κ:Type} {k:TypeId} {kl:κ→Lit} {ok:κ→Prop} {b n sz:Nat} {f:κ→Option Value} (hg:o.guard=none) (m:Operand) (t:TypeId) (hop:o.op=Op.call { callee:=Callee.builtin Builtin.len,args:=#[m],argTypes:=#[t] }) {e:TypeId} (h:MapC P k kl ok w b n f sz) (ht:P.underlying t=some (.map k e))
  (hm:a.eval m=.map (some b)) (hK:wpList P ops Q rest (a.put o.dst (.int .i64 sz)) w):wpList P ops Q (o::rest) a w:=by
 refine wpList_plain hg fun K' hK'=>?_
 unfold Oper.wp
 simp [execOp,hop,resolve,invoke,builtin,hm,h.len ht o.type,Result.andThen]
 exact hK' _ _ hK
end
def RetL (v:Value) (l bs:Nat) (V:LsV) (mb:Nat) (O:Option Addr) (cnt:Nat) (x:Nrm) (c:Col) (o:Opt) (L':Its) (w:World) (e:Ending) (w':World):Prop:=
 e=.returned v∧∃O' oc' f',Lst w' l bs V mb O' oc' cnt x c o f' L'∧Chg (Lf l mb O) w w'∧(blk O'=blk O∨∀q,blk O'=some q→w.heap.size≤q)
theorem eql_map (mb:Nat) (W:World):(binOp .eql 90 (.map (some mb)) (.map none)).run Tryz.prog W=.ok (.bool false) W:=by kernel_rfl
theorem lf_l (l mb:Nat) (O:Option Addr):Lf l mb O l:=.inl rfl
theorem lf_m (l mb:Nat) (O:Option Addr):Lf l mb O mb:=.inr (.inl rfl)
theorem lf_o {l mb:Nat} {O:Option Addr} {q:Nat} (h:blk O=some q):Lf l mb O q:=.inr (.inr h)
theorem row_kept {w w':World} {base n c:Nat} {e:TypeId} {A:Option Addr} {cs:List Value} {r:Option Nat} (h:w.ownsRow base e 1 (.slice A n c) n cs) (hg:w.grownBy w' r) (hr:∀q,r=some q→¬blk A=some q):w'.ownsRow base e 1 (.slice A n c) n cs:=by
 refine h.kept hg ?_
 rw [ownBlock_blk]
 cases hb:blk A with
 | none=>exact .inl rfl
 | some q=>exact .inr (fun e=>hr q e.symm hb)
section
variable {w w1 w2 w3:World} {l bs:Nat} {V:LsV} {mb:Nat} {O:Option Addr} {oc cnt:Nat} {x:Nrm} {c:Col} {o:Opt} {f:Int→Option Value} {L:Its}
theorem Lst.rem (h:Lst w l bs V mb O oc cnt x c o f L) {i:Nat} (hi:i < L.length) (hrow:w1.ownsRow bs 3 1 (.slice O (L.length - 1) oc) (L.length - 1) ((delL (idsL L) i).map (Value.int .i64))) (hg1:w.grownBy w1 (blk O))
  (hm:MapC Tryz.prog 3 ikey iok w3 mb cnt (fun z=>if z=L[i].1 then none else f z) (L.length - if (f L[i].1).isSome=true then 1 else 0)) (hg3:(w1.setCell ⟨l,13,none⟩ (.slice O (L.length - 1) oc)).grownBy w3 (some mb)) :
  Lst w3 l bs V mb O oc cnt x c o (fun z=>if z=L[i].1 then none else f z) (remL L L[i].1)∧Chg (Lf l mb O) w w3:=by
 obtain ⟨T,tk,K,kk,hf,_⟩:=h.get hi
 rw [hf] at hm
 have e1:=remL_at h.srt.one hi
 have el:(remL L L[i].1).length=L.length - 1:=by have:=remL_len1 h.srt.one (List.mem_map_of_mem (f:=Prod.fst) (List.getElem_mem hi));omega
 have eid:idsL (remL L L[i].1)=delL (idsL L) i:=by rw [e1];unfold idsL delL;rw [List.map_append,List.map_take,List.map_drop]
 have hgs:w1.grownBy (w1.setCell ⟨l,13,none⟩ (.slice O (L.length - 1) oc)) (some l):=grown_set w1 ⟨l,13,none⟩ _
 have hc:Chg (Lf l mb O) w w3:=((Chg.of_grown hg1 (fun q e=>lf_o e)).trans (Chg.of_grown hgs (fun q e=>by injection e with e;subst e;exact lf_l _ _ _))).trans (Chg.of_grown hg3 (fun q e=>by injection e with e;subst e;exact lf_m _ _ _))
 refine ⟨h.step hc (.inl rfl) ?_ (by rw [el];exact hm) ?_ (fun p hp=>.inl ?_) (fun id hid hn=>?_) (remL_srt h.srt _) (fun p hp=>h.ok p (remL_mem.1 hp).1) (by have:=h.len;omega),hc⟩
 ·rw [el]
  have b1:=h.box.grown hg1 (fun e=>h.nlo e.symm)
  have b2:=b1.set 13 (.slice O (L.length - 1) oc)
  exact b2.grown hg3 (fun e=>h.nlm (by injection e))
 ·rw [el,eid]
  exact row_kept (row_kept hrow hgs (fun q e g=>h.nlo (by injection e with e;rw [e];exact g))) hg3 (fun q e g=>h.nmo (by injection e with e;rw [e];exact g))
 ·have hm':=remL_mem.1 hp
  exact ⟨hm'.1,by rw [if_neg hm'.2]⟩
 ·by_cases e:id=L[i].1
  ·rw [if_pos e]
  ·rw [if_neg e]
   refine h.gone id hid (fun hin=>hn ?_)
   rw [remL_ids,List.mem_filter]
   exact ⟨hin,by simpa using e⟩
end
theorem slRemove_any {w:World} {l bs:Nat} {V:LsV} {mb:Nat} {O:Option Addr} {oc cnt:Nat} {x:Nrm} {c:Col} {o:Opt} {f:Int→Option Value} {L:Its} (h:Lst w l bs V mb O oc cnt x c o f L) (id:Int) (hid:iok id) :
  Calls Tryz.prog 49 #[.pointer (some ⟨l,0,none⟩),.int .i64 id] w (RetL (.bool (decide (id ∈ idsL L))) l bs V mb O cnt x c o (remL L id) w):=by
 have PC:=Lib.hid (slPosition_any h id hid)
 by_cases hin:id ∈ idsL L
 ·obtain ⟨p,hp,hpe⟩:=List.mem_map.1 hin
  obtain ⟨i,hi,rfl⟩:=List.getElem_of_mem hp
  subst hpe
  have PA:=posL_at h.srt.one hi
  rw [PA] at PC
  rw [decide_eq_true hin]
  have hL100:=h.len
  have HH:=Lib.hid h
  have RM:=Lib.hid (fun w0 (hw:Lst w0 l bs V mb O oc cnt x c o f L) w1 w3 a b c' d=>Lst.rem (w:=w0) (w1:=w1) (w3:=w3) hw hi a b c' d)
  have HID:=Lib.hid hid
  have hil:=idsL_len (L:=L)
  have DC:=Lib.hid (fun (W:World) hr=>del_own O L.length oc bs i (idsL L) W hr hil hi)
  rw [show ((i+1:Nat):Int)=(i:Int)+1 from rfl] at DC
  have DM:=Lib.hid (fun (W:World) (hW:Lst W l bs V mb O oc cnt x c o f L) W2 (hg:W.grownBy W2 (blk O))=>show MapC Tryz.prog 3 ikey iok (W2.setCell ⟨l,13,none⟩ (.slice O (L.length - 1) oc)) mb cnt f L.length from (hW.map.kept hg (fun e=>hW.nmo e.symm)).kept (grown_set W2 ⟨l,13,none⟩ _) (fun e=>hW.nlm (by injection e with e;exact e.symm)))
  have hn1:1≤L.length:=by omega
  generalize L[i].1=id at *
  have hcast:((L.length - 1:Nat):Int)=(L.length:Int) - 1:=by omega
  have HCA:=Lib.hid hcast
  clear h hp hin PA hid hil hcast
  go_enter Tryz.func49,Tryz.ntmps49
  go_wp2_with fail
  with_reducible refine PC.out.mono ?_
  rintro e W1 ⟨rfl,hb1⟩
  have H1:=Lib.hid (HH.out.below hb1)
  have X1:=H1.out.box
  unfold lsC at X1
  have c13:=X1.cell (i:=13) rfl
  have DCi:=Lib.hid (DC.out W1 H1.out.row)
  clear PC DC HH
  go_wp2_with fail
  with_reducible refine DCi.out.mono ?_
  rintro e W2 ⟨rfl,hr2,hg2⟩
  have X2:=X1.grown hg2 (fun e=>H1.out.nlo e.symm)
  have f13:=X2.free 13
  have g13:=X2.cell (i:=13) rfl
  have X3:=X2.set 13 (.slice O (L.length - 1) oc)
  have c12:=X3.cell (i:=12) rfl
  have HM:=Lib.hid (DM.out W1 H1.out W2 hg2)
  have HR2:=Lib.hid hr2
  have HG2:=Lib.hid hg2
  clear DCi DM X1 X2 X3 hr2 hg2 c13
  go_wp2_with (refine wpList_cdel rfl _ _ 90 rfl HM.out law_int Tryz.underlying90 rfl rfl HID.out (key_int HID.out) (fun z _ e=>ikey_inj e) ?_;intro W4 hM4 hg4)
  go_ret
  obtain ⟨r1,r2⟩:=RM.out W1 H1.out W2 W4 HR2.out HG2.out hM4 hg4
  exact ⟨rfl,O,oc,_,r1,(Chg.of_below hb1).trans r2,.inl rfl⟩
 ·rw [posL_none hin] at PC
  rw [remL_none hin,decide_eq_false hin]
  have HH:=Lib.hid h
  clear h hin hid
  go_enter Tryz.func49,Tryz.ntmps49
  go_wp2_with fail
  with_reducible refine PC.out.mono ?_
  rintro e W1 ⟨rfl,hb1⟩
  clear PC
  go_wp2_with fail
  go_ret
  exact ⟨rfl,O,oc,f,HH.out.below hb1,Chg.of_below hb1,.inl rfl⟩
theorem insL_ids {K:List Int→List Int} (L:Its) (id:Int) (t:List Int):idsL (putL K L id t)=insL (idsL (remL L id)) (atL K L id t) id:=by
 unfold idsL putL insL
 rw [List.map_append,List.map_cons,List.map_take,List.map_drop]
section
variable {w w4 w5 w6:World} {l bs:Nat} {V:LsV} {mb:Nat} {O:Option Addr} {oc cnt:Nat} {x:Nrm} {c:Col} {o:Opt} {f:Int→Option Value} {L L0:Its}
theorem Lst.put (h:Lst w l bs V mb O oc cnt x c o f L) {id:Int} {t:List Int} (hL:L=remL L0 id) (h0:Srt (kyN x c o) L0) (hid:iok id) (ht:t.length≤1000) (hio:∀z ∈ t,iok z) (hlen:L.length≤99) {T:Option Addr} {tk:Nat} {K:Option Addr} {kk:Nat}
  (hb4:Below w.heap.size w w4) (hT:w4.ownsRow w.heap.size 3 1 (.slice T t.length tk) t.length (t.map (Value.int .i64))) (hK:ApI (Lf l mb O) w K (kyN x c o t))
  (hm:MapC Tryz.prog 3 ikey iok w5 mb (cnt+1) (fun z=>if z=id then some (.agg #[.slice T t.length tk,.slice K (kyN x c o t).length kk]) else f z) (if (f id).isSome=true then L.length else L.length+1)) (hg5:w4.grownBy w5 (some mb))
  {B:Option Addr} {k:Nat} (hr:w6.ownsRow bs 3 1 (.slice B (L.length+1) k) (L.length+1) ((insL (idsL L) (atL (kyN x c o) L0 id t) id).map (Value.int .i64))) (hg6:(w5.alloc (.cells #[.int .i64 id] 3)).grownBy w6 (blk O)) (hB:blk B=blk O∨B=some ⟨(w5.alloc (.cells #[.int .i64 id] 3)).heap.size,0,none⟩) :
  ∃f',Lst (w6.setCell ⟨l,13,none⟩ (.slice B (L.length+1) k)) l bs V mb B k (cnt+1) x c o f' (putL (kyN x c o) L0 id t)∧Chg (Lf l mb O) w (w6.setCell ⟨l,13,none⟩ (.slice B (L.length+1) k))∧(blk B=blk O∨∀q,blk B=some q→w.heap.size≤q):=by
 have hni:id ∉ idsL L:=by rw [hL];exact remL_not
 have hfn:=h.gone id hid hni
 rw [hfn] at hm
 have el:(putL (kyN x c o) L0 id t).length=L.length+1:=by rw [putL_len,←hL]
 have eid:idsL (putL (kyN x c o) L0 id t)=insL (idsL L) (atL (kyN x c o) L0 id t) id:=by rw [insL_ids,←hL]
 have hlw:=h.box.lt
 have hmw:=h.map.lt
 have z4:=hb4.size
 have z5:=hg5.size
 have hal:Below w5.heap.size w5 (w5.alloc (.cells #[.int .i64 id] 3)):=(Below.refl _ _).alloc (Nat.le_refl _) _
 have zal:=hal.size
 have hgs:w6.grownBy (w6.setCell ⟨l,13,none⟩ (.slice B (L.length+1) k)) (some l):=grown_set w6 ⟨l,13,none⟩ _
 have hBn:∀q,blk B=some q→blk B=blk O∨(w5.alloc (.cells #[.int .i64 id] 3)).heap.size≤q:=fun q hq=>by
  rcases hB with g | g
  ·exact .inl g
  ·right;rw [g] at hq;have hq':=Option.some.inj (show some (w5.alloc (.cells #[.int .i64 id] 3)).heap.size=some q from hq);omega
 have hO':blk B=blk O∨∀q,blk B=some q→w.heap.size≤q:=by
  rcases hB with g | g
  ·exact .inl g
  ·right;intro q hq;rw [g] at hq;have hq':=Option.some.inj (show some (w5.alloc (.cells #[.int .i64 id] 3)).heap.size=some q from hq);omega
 have c45:Chg (Lf l mb O) w4 w5:=Chg.of_grown hg5 (fun q e=>by injection e with e;subst e;exact lf_m _ _ _)
 have c5:Chg (Lf l mb O) w5 (w6.setCell ⟨l,13,none⟩ (.slice B (L.length+1) k)):=((Chg.of_below hal).trans (Chg.of_grown hg6 (fun q e=>lf_o e))).trans (Chg.of_grown hgs (fun q e=>by injection e with e;subst e;exact lf_l _ _ _))
 have c4:=c45.trans c5
 have hc:=(Chg.of_below (S:=Lf l mb O) hb4).trans c4
 have hO4:blk B=blk O∨∀q,blk B=some q→w4.heap.size≤q:=by
  rcases hB with g | g
  ·exact .inl g
  ·right;intro q hq;rw [g] at hq;have hq':=Option.some.inj (show some (w5.alloc (.cells #[.int .i64 id] 3)).heap.size=some q from hq);omega
 have hOb:∀q,blk O=some q→q < w.heap.size:=fun q hq=>(own_blk h.row hq).2
 have nlB:¬blk B=some l:=fun e=>by
  rcases hBn l e with g | g
  ·exact h.nlo (by rw [←g];exact e)
  ·omega
 have nmB:¬blk B=some mb:=fun e=>by
  rcases hBn mb e with g | g
  ·exact h.nmo (by rw [←g];exact e)
  ·omega
 have apT:ApI (Lf l mb O) w4 T t:=⟨Sl.of_own hT,fun hne q hq hS=>by
  have h1:=(own_blk hT hq).1
  rcases hS with g | g | g
  ·omega
  ·omega
  ·have:=hOb q g;omega⟩
 refine ⟨_,h.step hc hO' ?_ (by rw [el];simpa using (((hm.below hal).kept hg6 (fun e=>h.nmo e.symm)).kept hgs (fun e=>h.nlm (by injection e with e;exact e.symm)))) ?_ (fun p hp=>?_) (fun id' hid' hn=>?_) (putL_srt h0 _ _) (fun p hp=>?_) (by rw [el];omega),hc,hO'⟩
 ·rw [el]
  have b4:=h.box.below hb4 hlw
  have b5:=b4.grown hg5 (fun e=>h.nlm (by injection e))
  have b6:=(bx_alloc b5 _).grown hg6 (fun e=>h.nlo e.symm)
  exact b6.set 13 _
 ·rw [el,eid]
  exact row_kept hr hgs (fun q e g=>nlB (by injection e with e;rw [e];exact g))
 ·rcases putL_mem.1 hp with rfl | ⟨g1,g2⟩
  ·right
   exact ⟨T,tk,K,kk,by simp,apT.to c4 (lf_new hO4),hK.to hc (lf_new hO')⟩
  ·left
   refine ⟨by rw [hL];exact remL_mem.2 ⟨g1,g2⟩,?_⟩
   rw [if_neg g2]
 ·rw [eid] at hn
  unfold insL at hn
  have h1:id'≠id:=fun e=>hn (by rw [e];simp)
  rw [if_neg h1]
  refine h.gone id' hid' (fun hin=>hn ?_)
  rw [←List.take_append_drop (atL (kyN x c o) L0 id t) (idsL L),List.mem_append] at hin
  rw [List.mem_append,List.mem_cons]
  rcases hin with g | g
  ·exact .inl g
  ·exact .inr (.inr g)
 ·rcases putL_mem.1 hp with rfl | ⟨g1,g2⟩
  ·exact ⟨hid,ht,hio⟩
  ·exact h.ok p (by rw [hL];exact remL_mem.2 ⟨g1,g2⟩)
end
theorem slPut_any {w:World} {l bs:Nat} {V:LsV} {mb:Nat} {O:Option Addr} {oc cnt:Nat} {x:Nrm} {c:Col} {o:Opt} {f:Int→Option Value} {L:Its} (h:Lst w l bs V mb O oc cnt x c o f L) (id:Int) (hid:iok id) (D:Option Addr) (dk:Nat) (t:List Int) (hD:ApI (Lf l mb O) w D t) (ht:t.length≤1000) (hio:∀z ∈ t,iok z) (hr99:(remL L id).length≤99) (hcn:cnt < maxLen) :
  Calls Tryz.prog 18 #[.pointer (some ⟨l,0,none⟩),.int .i64 id,.slice D t.length dk] w (RetL (.tuple #[.int .i64 (atL (kyN x c o) L id t:Nat),.int .i64 0]) l bs V mb O (cnt+1) x c o (putL (kyN x c o) L id t) w):=by
 have HID:=Lib.hid hid
 have HIO:=Lib.hid hio
 have hL100:=h.len
 have HM:=Lib.hid h.map
 have X0:=h.box
 unfold lsC at X0
 have l0:=X0.lt
 have c12:=X0.cell (i:=12) rfl
 have HCN:=Lib.hid hcn
 have HAP:=Lib.hid (fun W0 (b0:Below w.heap.size w W0) W1 (hc:Chg (Lf l mb O) W0 W1) W (hb:Below W1.heap.size W1 W)=>show Ints W D t from ((show ApI (Lf l mb O) W0 D t from ⟨hD.1.below b0,hD.2⟩).chg hc).below hb)
 by_cases hin:id ∈ idsL L
 ·obtain ⟨p,hp,hpe⟩:=List.mem_map.1 hin
  obtain ⟨T0,tk0,K0,kk0,hf,_,_⟩:=h.item p hp
  have hrl:=remL_len1 h.srt.one hin
  rw [hpe] at hf
  have HF:=Lib.hid hf
  have B0:Below w.heap.size w (w.alloc (.cells #[.slice T0 p.2.length tk0,.slice K0 (kyN x c o p.2).length kk0] 94)):=(Below.refl _ _).alloc (Nat.le_refl _) _
  have W0E:∃W0,(w.alloc (.cells #[.slice T0 p.2.length tk0,.slice K0 (kyN x c o p.2).length kk0] 94))=W0:=⟨_,rfl⟩
  have hoth:(L.length:Int) - 1=((remL L id).length:Int):=by omega
  have NM:∀W,(binOp .eql 90 (.map (some mb)) (.map none)).run Tryz.prog W=.ok (.bool false) W:=eql_map mb
  have HOT:=Lib.hid hoth
  have HD:=Lib.hid hD
  have HH:=Lib.hid h
  clear h hD hio hid hin hoth hrl hp hpe hf X0 hcn
  go_enter Tryz.func18,Tryz.ntmps18
  go_upto_region 5 with (first | (refine wpList_clen rfl _ 90 rfl HM.out Tryz.underlying90 rfl ?_) | (at_lookup;refine wpList_lookOk rfl _ _ 90 rfl HM.out.is law_int Tryz.underlying90 (zero_item _) rfl rfl HID.out (key_int HID.out) ?_;rw [HF.out];first | rw [Option.getD_some,Option.isSome_some] | rw [Option.getD_none,Option.isSome_none]))
  obtain ⟨W0,hW0⟩:=W0E
  try rw [hW0] at B0 ⊢
  clear hW0 c12
  have H0:=Lib.hid (HH.out.below B0)
  have RC:=Lib.hid (slRemove_any H0.out id HID.out)
  unfold RetL at RC
  go_upto_region 9 with (fail)
  go_wp2_with fail
  with_reducible refine RC.out.mono ?_
  rintro e W1 ⟨rfl,O1,oc1,f1,h1,hc1,hO1⟩
  have H1:=Lib.hid h1
  have HC1:=Lib.hid hc1
  have HO1:=Lib.hid hO1
  have HD1:=Lib.hid (HAP.out W0 B0 W1 hc1)
  have hap:=((HD1.out W1 (Below.refl _ _)))
  have KC:=Lib.hid (slKey_own h1 D t.length dk t hap rfl (by omega) HIO.out)
  unfold RetOwnI at KC
  clear RC h1 hc1 hO1 hap H0
  go_wp2_with fail
  with_reducible refine KC.out.mono ?_
  rintro e W2 ⟨K,kk,rfl,hK,hb2⟩
  have HK:=Lib.hid hK
  have HB2:=Lib.hid hb2
  have H2:=Lib.hid (H1.out.below hb2)
  have PC:=Lib.hid (slPlace_any H2.out K kk (kyN x c o t) id (Sl.of_own hK) (by have:=kyN_len x c o t;omega))
  have hat:plc (kL (kyN x c o) (remL L id)) (kyN x c o t,id)=atL (kyN x c o) L id t:=rfl
  rw [hat] at PC
  clear KC hK hb2 hat
  have hatle:=atL_le (K:=kyN x c o) (L:=L) (id:=id) (t:=t)
  generalize hatg:atL (kyN x c o) L id t=at0 at *
  have HATG:=Lib.hid hatg
  clear hatg
  go_wp2_with fail
  with_reducible refine PC.out.mono ?_
  rintro e W3 ⟨rfl,hb3⟩
  have H3:=Lib.hid (H2.out.below hb3)
  have X3:=H3.out.box
  unfold lsC at X3
  have l3:=X3.lt
  have SH:=Lib.hid (fun W' (hg:W3.grownBy W' (some mb))=>show W'.cell? ⟨l,12,none⟩=some (.map (some mb))∧W3.grownBy W' (some mb) from ⟨(X3.grown hg (fun e=>H3.out.nlm (by injection e))).cell (i:=12) rfl,hg⟩)
  have HB3:=Lib.hid hb3
  have CLC:=Lib.hid (fun W (hb:Below W3.heap.size W3 W)=>cloneI_any D t.length dk t W (HD1.out W (((HB2.out.trans (HB3.out.mono HB2.out.size)).trans (hb.mono (Nat.le_trans HB2.out.size HB3.out.size))))) rfl (by omega))
  unfold RetOwnI at CLC
  have TCL:=Lib.hid (fun W (hg:W3.grownBy W (some mb)) (hb:Below W3.heap.size W3 W)=>(CLC.out W hb).mono (R':=fun e W'=>∃v,e=.returned v∧(W'.cell? ⟨l,12,none⟩=some (.map (some mb))∧W3.grownBy W' (some mb))∧(∃T tk,v=.slice T t.length tk∧W'.ownsRow W3.heap.size 3 1 (.slice T t.length tk) t.length (t.map (Value.int .i64))∧Below W3.heap.size W3 W')) (fun e W' ⟨T,tk,he,g1,g2⟩=>⟨_,he,SH.out W' (grownR_below hg g2),T,tk,rfl,own_mono g1 hb.size,hb.trans (g2.mono hb.size)⟩))
  clear PC hb3 CLC X3
  go_upto_region 12 with (fail)
  refine wp_region_held_drew (S:=fun W'=>W'.cell? ⟨l,12,none⟩=some (.map (some mb))∧W3.grownBy W' (some mb)) (by kernel_rfl) (SH.out _ (grownR_drew (grownR_refl W3 _))) (fun hHeld=>?_)
  refine tK 0 56 ?_
  refine tK 1 57 ?_
  refine tK 2 58 ?_
  refine tK 3 59 ?_
  refine tK 4 60 ?_
  refine tK 5 61 ?_
  refine tK 7 63 ?_
  refine qE 6 62 (TCL.out _ (grownR_drew (grownR_refl W3 _)) (Below.refl _ _).drew) ?_
  clear hHeld
  rintro _ W4 hHeld ⟨T,tk,rfl,hT,hb4⟩
  refine tK 8 64 ?_
  have HM4:=Lib.hid (MapC.below H3.out.map hb4)
  refine anyH_cput (i:=9) none rfl rfl (by kernel_rfl) (by rfl) _ _ _ 90 rfl HM4.out law_int Tryz.underlying90 HCN.out rfl rfl rfl HID.out (key_int HID.out) (fun z _ e=>ikey_inj e) (fun W' hg=>SH.out W' (grownR_trans (hHeld.2) hg)) ?_
  intro W5 hM5 hg5
  try simp only [Act.put]
  refine wpAnyH_done (by kernel_rfl) ?_ _
  have HT:=Lib.hid hT
  have HB4:=Lib.hid hb4
  have HM5:=Lib.hid hM5
  have HG5:=Lib.hid hg5
  have X5:Box W5 l 92 (lsC V x c o mb O1 (remL L id).length oc1):=(H3.out.box.below hb4 l3).grown hg5 (fun e=>H3.out.nlm (by injection e))
  have R5:=row_kept (own_keep H3.out.row hb4) hg5 (fun q e g=>H3.out.nmo (by injection e with e;rw [e];exact g))
  unfold lsC at X5
  have l5:=X5.lt
  have c13:=X5.cell (i:=13) rfl
  have hbs5:bs≤W5.heap.size:=by have:=H3.out.bs_le;have:=hb4.size;have:=hg5.size;omega
  have XI:Box (W5.alloc (.cells #[.int .i64 id] 3)) W5.heap.size 3 [.int .i64 id]:=Box.new W5 3 [.int .i64 id] rfl
  have hob:∀g,blk O1=some g→W5.heap.size≠g:=fun g hg e=>by have:=(own_blk R5 hg).2;omega
  have X6:=bx_alloc X5 (.cells #[.int .i64 id] 3)
  have IC:=Lib.hid (ins_own O1 (remL L id).length oc1 bs at0 (idsL (remL L id)) id W5.heap.size 1 (W5.alloc (.cells #[.int .i64 id] 3)) (own_keep R5 ((Below.refl _ _).alloc (Nat.le_refl _) _)) (by simp;omega) idsL_len hatle XI hob (by omega))
  have HX6:=Lib.hid X6
  have hil:=idsL_len (L:=remL L id)
  unfold RetIns at IC
  rw [hil] at IC
  have WIE:∃WI,(W5.alloc (.cells #[.int .i64 id] 3))=WI:=⟨_,rfl⟩
  clear hHeld SH TCL hT hb4 hM5 hg5 X5 R5 XI X6 hil
  go_wp2_with fail
  with_reducible refine IC.out.mono ?_
  rintro e W6 ⟨B,k,rfl,hr6,hg6,hB6⟩
  have X7:=HX6.out.grown hg6 (fun e=>H3.out.nlo e.symm)
  have f13:=X7.free 13
  have g13:=X7.cell (i:=13) rfl
  have HR6:=Lib.hid hr6
  have HG6:=Lib.hid hg6
  have HB6:=Lib.hid hB6
  clear IC hr6 hg6 hB6 X7 HX6 c13 hob
  go_wp2_with fail
  go_ret2
  have apK:ApI (Lf l mb O1) W3 K (kyN x c o t):=⟨(Sl.of_own HK.out:Ints W2 K _).below HB3.out,fun hne q hq hS=>by
   have h1:=(own_blk HK.out hq).1
   rcases hS with g | g | g
   ·have:=H1.out.box.lt;omega
   ·have:=H1.out.map.lt;omega
   ·have:=(own_blk H1.out.row g).2;omega⟩
  obtain ⟨f',r1,r2,r3⟩:=H3.out.put rfl HH.out.srt HID.out ht HIO.out (by omega) HB4.out HT.out apK HM5.out HG5.out (by rw [HATG.out];exact HR6.out) HG6.out HB6.out
  have cb:Chg (Lf l mb O) w W3:=((Chg.of_below B0).trans (HC1.out)).trans ((Chg.of_below (S:=Lf l mb O) HB2.out).trans (Chg.of_below HB3.out))
  have hz:w.heap.size≤W3.heap.size:=cb.size
  refine ⟨rfl,B,k,f',r1,cb.trans' r2 (lf_new (Or.imp (fun z=>z) (fun hh q hq=>Nat.le_trans B0.size (hh q hq)) HO1.out)),?_⟩
  rcases r3 with g | g
  ·rcases HO1.out with g' | g'
   ·exact .inl (g.trans g')
   ·exact .inr (fun q hq=>Nat.le_trans B0.size (g' q (by rw [←g];exact hq)))
  ·exact .inr (fun q hq=>Nat.le_trans hz (g q hq))
 ·have hrl:=remL_none hin
  have HF:=Lib.hid (h.gone id hid hin)
  have B0:Below w.heap.size w (w.alloc (.cells #[.slice none 0 0,.slice none 0 0] 94)):=(Below.refl _ _).alloc (Nat.le_refl _) _
  have W0E:∃W0,(w.alloc (.cells #[.slice none 0 0,.slice none 0 0] 94))=W0:=⟨_,rfl⟩
  have hoth:(L.length:Int)=((remL L id).length:Int):=by rw [hrl]
  have hl99:L.length≤99:=by rw [hrl] at hr99;exact hr99
  have NM:∀W,(binOp .eql 90 (.map (some mb)) (.map none)).run Tryz.prog W=.ok (.bool false) W:=eql_map mb
  have HOT:=Lib.hid hoth
  have HD:=Lib.hid hD
  have HH:=Lib.hid h
  clear h hD hio hid hin hoth hrl X0 hcn
  go_enter Tryz.func18,Tryz.ntmps18
  go_upto_region 5 with (first | (refine wpList_clen rfl _ 90 rfl HM.out Tryz.underlying90 rfl ?_) | (at_lookup;refine wpList_lookOk rfl _ _ 90 rfl HM.out.is law_int Tryz.underlying90 (zero_item _) rfl rfl HID.out (key_int HID.out) ?_;rw [HF.out];first | rw [Option.getD_some,Option.isSome_some] | rw [Option.getD_none,Option.isSome_none]))
  obtain ⟨W0,hW0⟩:=W0E
  try rw [hW0] at B0 ⊢
  clear hW0 c12
  have H0:=Lib.hid (HH.out.below B0)
  have RC:=Lib.hid (slRemove_any H0.out id HID.out)
  unfold RetL at RC
  go_upto_region 9 with (fail)
  go_wp2_with fail
  with_reducible refine RC.out.mono ?_
  rintro e W1 ⟨rfl,O1,oc1,f1,h1,hc1,hO1⟩
  have H1:=Lib.hid h1
  have HC1:=Lib.hid hc1
  have HO1:=Lib.hid hO1
  have HD1:=Lib.hid (HAP.out W0 B0 W1 hc1)
  have hap:=((HD1.out W1 (Below.refl _ _)))
  have KC:=Lib.hid (slKey_own h1 D t.length dk t hap rfl (by omega) HIO.out)
  unfold RetOwnI at KC
  clear RC h1 hc1 hO1 hap H0
  go_wp2_with fail
  with_reducible refine KC.out.mono ?_
  rintro e W2 ⟨K,kk,rfl,hK,hb2⟩
  have HK:=Lib.hid hK
  have HB2:=Lib.hid hb2
  have H2:=Lib.hid (H1.out.below hb2)
  have PC:=Lib.hid (slPlace_any H2.out K kk (kyN x c o t) id (Sl.of_own hK) (by have:=kyN_len x c o t;omega))
  have hat:plc (kL (kyN x c o) (remL L id)) (kyN x c o t,id)=atL (kyN x c o) L id t:=rfl
  rw [hat] at PC
  clear KC hK hb2 hat
  have hatle:=atL_le (K:=kyN x c o) (L:=L) (id:=id) (t:=t)
  generalize hatg:atL (kyN x c o) L id t=at0 at *
  have HATG:=Lib.hid hatg
  clear hatg
  go_wp2_with fail
  with_reducible refine PC.out.mono ?_
  rintro e W3 ⟨rfl,hb3⟩
  have H3:=Lib.hid (H2.out.below hb3)
  have X3:=H3.out.box
  unfold lsC at X3
  have l3:=X3.lt
  have SH:=Lib.hid (fun W' (hg:W3.grownBy W' (some mb))=>show W'.cell? ⟨l,12,none⟩=some (.map (some mb))∧W3.grownBy W' (some mb) from ⟨(X3.grown hg (fun e=>H3.out.nlm (by injection e))).cell (i:=12) rfl,hg⟩)
  have HB3:=Lib.hid hb3
  have CLC:=Lib.hid (fun W (hb:Below W3.heap.size W3 W)=>cloneI_any D t.length dk t W (HD1.out W (((HB2.out.trans (HB3.out.mono HB2.out.size)).trans (hb.mono (Nat.le_trans HB2.out.size HB3.out.size))))) rfl (by omega))
  unfold RetOwnI at CLC
  have TCL:=Lib.hid (fun W (hg:W3.grownBy W (some mb)) (hb:Below W3.heap.size W3 W)=>(CLC.out W hb).mono (R':=fun e W'=>∃v,e=.returned v∧(W'.cell? ⟨l,12,none⟩=some (.map (some mb))∧W3.grownBy W' (some mb))∧(∃T tk,v=.slice T t.length tk∧W'.ownsRow W3.heap.size 3 1 (.slice T t.length tk) t.length (t.map (Value.int .i64))∧Below W3.heap.size W3 W')) (fun e W' ⟨T,tk,he,g1,g2⟩=>⟨_,he,SH.out W' (grownR_below hg g2),T,tk,rfl,own_mono g1 hb.size,hb.trans (g2.mono hb.size)⟩))
  clear PC hb3 CLC X3
  go_upto_region 12 with (fail)
  refine wp_region_held_drew (S:=fun W'=>W'.cell? ⟨l,12,none⟩=some (.map (some mb))∧W3.grownBy W' (some mb)) (by kernel_rfl) (SH.out _ (grownR_drew (grownR_refl W3 _))) (fun hHeld=>?_)
  refine tK 0 56 ?_
  refine tK 1 57 ?_
  refine tK 2 58 ?_
  refine tK 3 59 ?_
  refine tK 4 60 ?_
  refine tK 5 61 ?_
  refine tK 7 63 ?_
  refine qE 6 62 (TCL.out _ (grownR_drew (grownR_refl W3 _)) (Below.refl _ _).drew) ?_
  clear hHeld
  rintro _ W4 hHeld ⟨T,tk,rfl,hT,hb4⟩
  refine tK 8 64 ?_
  have HM4:=Lib.hid (MapC.below H3.out.map hb4)
  refine anyH_cput (i:=9) none rfl rfl (by kernel_rfl) (by rfl) _ _ _ 90 rfl HM4.out law_int Tryz.underlying90 HCN.out rfl rfl rfl HID.out (key_int HID.out) (fun z _ e=>ikey_inj e) (fun W' hg=>SH.out W' (grownR_trans (hHeld.2) hg)) ?_
  intro W5 hM5 hg5
  try simp only [Act.put]
  refine wpAnyH_done (by kernel_rfl) ?_ _
  have HT:=Lib.hid hT
  have HB4:=Lib.hid hb4
  have HM5:=Lib.hid hM5
  have HG5:=Lib.hid hg5
  have X5:Box W5 l 92 (lsC V x c o mb O1 (remL L id).length oc1):=(H3.out.box.below hb4 l3).grown hg5 (fun e=>H3.out.nlm (by injection e))
  have R5:=row_kept (own_keep H3.out.row hb4) hg5 (fun q e g=>H3.out.nmo (by injection e with e;rw [e];exact g))
  unfold lsC at X5
  have l5:=X5.lt
  have c13:=X5.cell (i:=13) rfl
  have hbs5:bs≤W5.heap.size:=by have:=H3.out.bs_le;have:=hb4.size;have:=hg5.size;omega
  have XI:Box (W5.alloc (.cells #[.int .i64 id] 3)) W5.heap.size 3 [.int .i64 id]:=Box.new W5 3 [.int .i64 id] rfl
  have hob:∀g,blk O1=some g→W5.heap.size≠g:=fun g hg e=>by have:=(own_blk R5 hg).2;omega
  have X6:=bx_alloc X5 (.cells #[.int .i64 id] 3)
  have IC:=Lib.hid (ins_own O1 (remL L id).length oc1 bs at0 (idsL (remL L id)) id W5.heap.size 1 (W5.alloc (.cells #[.int .i64 id] 3)) (own_keep R5 ((Below.refl _ _).alloc (Nat.le_refl _) _)) (by simp;omega) idsL_len hatle XI hob (by omega))
  have HX6:=Lib.hid X6
  have hil:=idsL_len (L:=remL L id)
  unfold RetIns at IC
  rw [hil] at IC
  have WIE:∃WI,(W5.alloc (.cells #[.int .i64 id] 3))=WI:=⟨_,rfl⟩
  clear hHeld SH TCL hT hb4 hM5 hg5 X5 R5 XI X6 hil
  go_wp2_with fail
  with_reducible refine IC.out.mono ?_
  rintro e W6 ⟨B,k,rfl,hr6,hg6,hB6⟩
  have X7:=HX6.out.grown hg6 (fun e=>H3.out.nlo e.symm)
  have f13:=X7.free 13
  have g13:=X7.cell (i:=13) rfl
  have HR6:=Lib.hid hr6
  have HG6:=Lib.hid hg6
  have HB6:=Lib.hid hB6
  clear IC hr6 hg6 hB6 X7 HX6 c13 hob
  go_wp2_with fail
  go_ret2
  have apK:ApI (Lf l mb O1) W3 K (kyN x c o t):=⟨(Sl.of_own HK.out:Ints W2 K _).below HB3.out,fun hne q hq hS=>by
   have h1:=(own_blk HK.out hq).1
   rcases hS with g | g | g
   ·have:=H1.out.box.lt;omega
   ·have:=H1.out.map.lt;omega
   ·have:=(own_blk H1.out.row g).2;omega⟩
  obtain ⟨f',r1,r2,r3⟩:=H3.out.put rfl HH.out.srt HID.out ht HIO.out (by omega) HB4.out HT.out apK HM5.out HG5.out (by rw [HATG.out];exact HR6.out) HG6.out HB6.out
  have cb:Chg (Lf l mb O) w W3:=((Chg.of_below B0).trans (HC1.out)).trans ((Chg.of_below (S:=Lf l mb O) HB2.out).trans (Chg.of_below HB3.out))
  have hz:w.heap.size≤W3.heap.size:=cb.size
  refine ⟨rfl,B,k,f',r1,cb.trans' r2 (lf_new (Or.imp (fun z=>z) (fun hh q hq=>Nat.le_trans B0.size (hh q hq)) HO1.out)),?_⟩
  rcases r3 with g | g
  ·rcases HO1.out with g' | g'
   ·exact .inl (g.trans g')
   ·exact .inr (fun q hq=>Nat.le_trans B0.size (g' q (by rw [←g];exact hq)))
  ·exact .inr (fun q hq=>Nat.le_trans hz (g q hq))
end Go.Proofs.YtijgbonhjcblcaaGreatDoor
