/- Texts that are merged into one file: LawL. -/
import Derived.Test.YtijgbonhjcblcaaGreatDoorM17
import Derived.Test.YtijgbonhjcblcaaGreatDoorM19
import Derived.Test.YtijgbonhjcblcaaGreatDoorM25
import Derived.Test.YtijgbonhjcblcaaGreatDoorM26
import Derived.Test.YtijgbonhjcblcaaGreatDoorM27
import Derived.Test.YtijgbonhjcblcaaGreatDoorM28
set_option maxRecDepth 100000
set_option maxHeartbeats 51200000
namespace Go.Proofs.YtijgbonhjcblcaaGreatDoor
open Go.RowKit Go.Maps Go.WideMaps Srl
theorem list_sort {K:List Int→List Int} {L:Its} {l:List (List Int)} {d:List Int} (h:Srt K L) (hm:∀p,p ∈ L ↔ ∃i,∃hi:i < l.length,p=((i:Int),l[i])) (hd:d.Pairwise (OrdI (l.map K))) (hz:∀z,z ∈ d ↔ z ∈ rngI l.length):idsL L=d:=by
 have e:kL K L=d.map (fun z=>((l.map K).getD z.toNat [],z)):=by
  refine Srl.asc_unique h.asc ?_ (fun t=>?_)
  ·rw [List.pairwise_map]
   exact hd
  ·unfold kL
   rw [List.mem_map,List.mem_map]
   constructor
   ·rintro ⟨p,hp,rfl⟩
    obtain ⟨i,hi,rfl⟩:=(hm p).1 hp
    refine ⟨(i:Int),(hz _).2 ?_,?_⟩
    ·unfold rngI;exact List.mem_map.2 ⟨i,List.mem_range.2 hi,rfl⟩
    ·rw [Int.toNat_natCast,getD_lt (by simpa using hi),List.getElem_map];rfl
   ·rintro ⟨z,hz',rfl⟩
    have hr:=(hz z).1 hz'
    unfold rngI at hr
    obtain ⟨i,hi,rfl⟩:=List.mem_map.1 hr
    have hi:=List.mem_range.1 hi
    refine ⟨((i:Int),l[i]),(hm _).2 ⟨i,hi,rfl⟩,?_⟩
    rw [Int.toNat_natCast,getD_lt (by simpa using hi),List.getElem_map];rfl
 have h2:=congrArg (List.map Prod.snd) e
 rw [List.map_map] at h2
 unfold kL at h2
 rw [List.map_map] at h2
 have h3:(List.map (Prod.snd ∘ kI K) L)=idsL L:=rfl
 have h4:(List.map (Prod.snd ∘ fun z=>((l.map K).getD z.toNat [],z)) d)=d:=by
  conv=>rhs;rw [←List.map_id d]
  rfl
 rw [h3,h4] at h2
 exact h2
theorem chg_below {l mb:Nat} {O:Option Addr} {n bs:Nat} {w0 w w':World} (hb:Below n w0 w) (hs:n≤w.heap.size) (hc:Chg (Lf l mb O) w w') (hn:n≤bs) (hl:∀k,Lf l mb O k→bs≤k):Below n w0 w':=
 hb.trans (hc.below hs (fun k hk=>Nat.le_trans hn (hl k hk)))
theorem from_step {K:List Int→List Int} {L:Its} {l:List (List Int)} {q:Nat} (hq:q < l.length) (h:∀p,p ∈ L ↔ ∃i,∃hi:i < l.length,q+1≤i∧p=((i:Int),l[i])):∀p,p ∈ putL K L q l[q] ↔ ∃i,∃hi:i < l.length,q≤i∧p=((i:Int),l[i]):=by
 intro p
 rw [putL_mem]
 constructor
 ·rintro (rfl | ⟨h1,_⟩)
  ·exact ⟨q,hq,Nat.le_refl _,rfl⟩
  ·obtain ⟨i,hi,h2,rfl⟩:=(h p).1 h1
   exact ⟨i,hi,by omega,rfl⟩
 ·rintro ⟨i,hi,h2,rfl⟩
  by_cases e:i=q
  ·subst e;exact .inl rfl
  ·refine .inr ⟨(h _).2 ⟨i,hi,by omega,rfl⟩,fun g=>e ?_⟩
   have g':(i:Int)=(q:Int):=g
   omega
theorem TopList_any (V:SetV) (x:Nrm) (c:Col) (o:Opt) (A:Option Addr) (a:Nat) (l:List (List Int)) (w:World) (hS:SetAt w V x c) (hl:Txts w A l) (hL:Laid w) :
  Calls Tryz.prog 4 #[.agg #[.slice V.A0 x.cls.length V.k0,.slice V.A1 x.dec.length V.k1,.slice V.A2 x.exc.length V.k2,.slice V.C c.ents.length V.a,.slice V.B c.grps.length V.b,.int .i64 c.base,.int .i64 c.second,.int .i64 c.third,.int .i64 o.st,.int .i64 o.va,.bool o.bk,.bool o.idn],.slice A l.length a] w (RetTrue w):=by
 have B0:Below w.heap.size w (w.alloc (.cells #[.slice V.A0 x.cls.length V.k0,.slice V.A1 x.dec.length V.k1,.slice V.A2 x.exc.length V.k2,.slice V.C c.ents.length V.a,.slice V.B c.grps.length V.b,.int .i64 c.base,.int .i64 c.second,.int .i64 c.third,.int .i64 o.st,.int .i64 o.va,.bool o.bk,.bool o.idn] 36)):=(Below.refl _ _).alloc (Nat.le_refl _) _
 have X0:Box (w.alloc (.cells #[.slice V.A0 x.cls.length V.k0,.slice V.A1 x.dec.length V.k1,.slice V.A2 x.exc.length V.k2,.slice V.C c.ents.length V.a,.slice V.B c.grps.length V.b,.int .i64 c.base,.int .i64 c.second,.int .i64 c.third,.int .i64 o.st,.int .i64 o.va,.bool o.bk,.bool o.idn] 36)) w.heap.size 36 [.slice V.A0 x.cls.length V.k0,.slice V.A1 x.dec.length V.k1,.slice V.A2 x.exc.length V.k2,.slice V.C c.ents.length V.a,.slice V.B c.grps.length V.b,.int .i64 c.base,.int .i64 c.second,.int .i64 c.third,.int .i64 o.st,.int .i64 o.va,.bool o.bk,.bool o.idn]:=Box.new _ _ _ rfl
 have W0E:∃W0,(w.alloc (.cells #[.slice V.A0 x.cls.length V.k0,.slice V.A1 x.dec.length V.k1,.slice V.A2 x.exc.length V.k2,.slice V.C c.ents.length V.a,.slice V.B c.grps.length V.b,.int .i64 c.base,.int .i64 c.second,.int .i64 c.third,.int .i64 o.st,.int .i64 o.va,.bool o.bk,.bool o.idn] 36))=W0:=⟨_,rfl⟩
 have HS:=Lib.hid hS
 have HL:=Lib.hid hl
 have HLd:=Lib.hid hL
 have KA:=Lib.hid (fun W (hb:Below w.heap.size w W)=>alive7_any W (hL.below hb))
 have KS:=Lib.hid (fun W (hb:Below w.heap.size w W)=>small_any V x c o W (hS.below hb))
 have K1:=Lib.hid (fun W (hb:Below w.heap.size w W) (hz:NrmSz x)=>rdCheck_any V.A0 _ V.k0 V.A1 _ V.k1 V.A2 _ V.k2 x W (hS.nrm.below hb) hz)
 have K2:=Lib.hid (fun W (hb:Below w.heap.size w W) (hz:ColSz c)=>refColl_any V.C _ V.a V.B _ V.b c W (hS.col.below hb) hz)
 have K3:=Lib.hid (fun W=>rkCheck_any o W)
 have KN:=Lib.hid (fun W (hb:Below w.heap.size w W) (hz:NrmSz x) (hz2:ColSz c)=>new_any V.A0 V.k0 V.A1 V.k1 V.A2 V.k2 x V.C V.a V.B V.b c o W (hS.nrm.below hb) hz (hS.col.below hb) hz2 (hL.below hb))
 have NE:=Lib.hid (fun (h1:nErr x=0) (h2:colErr c=0) (h3:optErr o=0)=>show newErr x c o=0 by unfold newErr;rw [if_neg (fun q=>q h1),if_neg (fun q=>q h2)];exact h3)
 have SM:=Lib.hid (fun (h:(smallS x&&smallC c)=true)=>show NrmSz x∧ColSz c from by
  rw [Bool.and_eq_true] at h
  exact ⟨smallS_sz h.1,(small_sz h.2).1⟩)
 unfold RetTrue at KA ⊢
 unfold RetBool at KS
 unfold RetInt at K1 K2
 unfold colV at K2
 unfold RetNew at KN
 clear hS hl hL
 go_enter Tryz.func4,Tryz.ntmps4
 go_upto_region 1 with (fail)
 obtain ⟨W0,hW0⟩:=W0E
 try rw [hW0] at B0 X0 ⊢
 clear hW0
 have HX:=Lib.hid X0
 have hz0:=X0.lt
 have HB0:=Lib.hid B0
 clear X0
 have d0:=(HX.out.below (Below.refl _ _) HX.out.lt).cell (i:=0) rfl
 have d1:=(HX.out.below (Below.refl _ _) HX.out.lt).cell (i:=1) rfl
 have d2:=(HX.out.below (Below.refl _ _) HX.out.lt).cell (i:=2) rfl
 have d3:=(HX.out.below (Below.refl _ _) HX.out.lt).cell (i:=3) rfl
 have d4:=(HX.out.below (Below.refl _ _) HX.out.lt).cell (i:=4) rfl
 have d5:=(HX.out.below (Below.refl _ _) HX.out.lt).cell (i:=5) rfl
 have d6:=(HX.out.below (Below.refl _ _) HX.out.lt).cell (i:=6) rfl
 have d7:=(HX.out.below (Below.refl _ _) HX.out.lt).cell (i:=7) rfl
 have d8:=(HX.out.below (Below.refl _ _) HX.out.lt).cell (i:=8) rfl
 have d9:=(HX.out.below (Below.refl _ _) HX.out.lt).cell (i:=9) rfl
 have d10:=(HX.out.below (Below.refl _ _) HX.out.lt).cell (i:=10) rfl
 have d11:=(HX.out.below (Below.refl _ _) HX.out.lt).cell (i:=11) rfl
 have KSi:=Lib.hid (KS.out W0 B0)
 generalize (smallS x&&smallC c)=sm at *
 go_wp2_with fail
 with_reducible refine KSi.out.mono ?_
 rintro e W1 ⟨rfl,hb1⟩
 have B1:=B0.trans (hb1.mono B0.size)
 clear KS KSi d0 d1 d2 d3 d4 d5 d6 d7 d8 d9 d10 d11
 cases sm with
 | false=>
  go_wp2_with fail
  with_reducible refine (KA.out W1 B1).mono ?_
  rintro e W9 ⟨rfl,hb9⟩
  have hbn:=(B1).trans (hb9.mono (B1).size)
  go_wp2_with fail
  go_ret
  exact ⟨rfl,hbn⟩
 | true=>
 have HSM:=Lib.hid (SM.out rfl)
 clear SM
 by_cases h6:6 < l.length
 ·have q6:decide ((6:Int) < (l.length:Int))=true:=by simp;omega
  go_wp2_with fail
  with_reducible refine (KA.out W1 B1).mono ?_
  rintro e W9 ⟨rfl,hb9⟩
  have hbn:=(B1).trans (hb9.mono (B1).size)
  go_wp2_with fail
  go_ret
  exact ⟨rfl,hbn⟩
 have q6:decide ((6:Int) < (l.length:Int))=false:=by simp;omega
 have d0:=(HX.out.below hb1 HX.out.lt).cell (i:=0) rfl
 have d1:=(HX.out.below hb1 HX.out.lt).cell (i:=1) rfl
 have d2:=(HX.out.below hb1 HX.out.lt).cell (i:=2) rfl
 have d3:=(HX.out.below hb1 HX.out.lt).cell (i:=3) rfl
 have d4:=(HX.out.below hb1 HX.out.lt).cell (i:=4) rfl
 have d5:=(HX.out.below hb1 HX.out.lt).cell (i:=5) rfl
 have d6:=(HX.out.below hb1 HX.out.lt).cell (i:=6) rfl
 have d7:=(HX.out.below hb1 HX.out.lt).cell (i:=7) rfl
 have d8:=(HX.out.below hb1 HX.out.lt).cell (i:=8) rfl
 have d9:=(HX.out.below hb1 HX.out.lt).cell (i:=9) rfl
 have d10:=(HX.out.below hb1 HX.out.lt).cell (i:=10) rfl
 have d11:=(HX.out.below hb1 HX.out.lt).cell (i:=11) rfl
 have K1i:=Lib.hid (K1.out W1 B1 HSM.out.1)
 go_wp2_with fail
 with_reducible refine K1i.out.mono ?_
 rintro e W2 ⟨rfl,hb2⟩
 have B2:=B1.trans (hb2.mono B1.size)
 have hb02:=hb1.trans (hb2.mono hb1.size)
 clear K1 K1i q6 d0 d1 d2 d3 d4 d5 d6 d7 d8 d9 d10 d11 hb1 hb2
 by_cases e1:nErr x=0
 rotate_left
 ·have q1:(nErr x != 0)=true:=by simpa using e1
  go_wp2_with fail
  with_reducible refine (KA.out W2 B2).mono ?_
  rintro e W9 ⟨rfl,hb9⟩
  have hbn:=(B2).trans (hb9.mono (B2).size)
  go_wp2_with fail
  go_ret
  exact ⟨rfl,hbn⟩
 have q1:(nErr x != 0)=false:=by simpa using e1
 have d0:=(HX.out.below hb02 HX.out.lt).cell (i:=0) rfl
 have d1:=(HX.out.below hb02 HX.out.lt).cell (i:=1) rfl
 have d2:=(HX.out.below hb02 HX.out.lt).cell (i:=2) rfl
 have d3:=(HX.out.below hb02 HX.out.lt).cell (i:=3) rfl
 have d4:=(HX.out.below hb02 HX.out.lt).cell (i:=4) rfl
 have d5:=(HX.out.below hb02 HX.out.lt).cell (i:=5) rfl
 have d6:=(HX.out.below hb02 HX.out.lt).cell (i:=6) rfl
 have d7:=(HX.out.below hb02 HX.out.lt).cell (i:=7) rfl
 have d8:=(HX.out.below hb02 HX.out.lt).cell (i:=8) rfl
 have d9:=(HX.out.below hb02 HX.out.lt).cell (i:=9) rfl
 have d10:=(HX.out.below hb02 HX.out.lt).cell (i:=10) rfl
 have d11:=(HX.out.below hb02 HX.out.lt).cell (i:=11) rfl
 have K2i:=Lib.hid (K2.out W2 B2 HSM.out.2)
 go_wp2_with fail
 with_reducible refine K2i.out.mono ?_
 rintro e W3 ⟨rfl,hb3⟩
 have B3:=B2.trans (hb3.mono B2.size)
 have hb03:=hb02.trans (hb3.mono hb02.size)
 clear K2 K2i q1 d0 d1 d2 d3 d4 d5 d6 d7 d8 d9 d10 d11 hb02 hb3
 by_cases e2:colErr c=0
 rotate_left
 ·have q1:(colErr c != 0)=true:=by simpa using e2
  go_wp2_with fail
  with_reducible refine (KA.out W3 B3).mono ?_
  rintro e W9 ⟨rfl,hb9⟩
  have hbn:=(B3).trans (hb9.mono (B3).size)
  go_wp2_with fail
  go_ret
  exact ⟨rfl,hbn⟩
 have q1:(colErr c != 0)=false:=by simpa using e2
 have d0:=(HX.out.below hb03 HX.out.lt).cell (i:=0) rfl
 have d1:=(HX.out.below hb03 HX.out.lt).cell (i:=1) rfl
 have d2:=(HX.out.below hb03 HX.out.lt).cell (i:=2) rfl
 have d3:=(HX.out.below hb03 HX.out.lt).cell (i:=3) rfl
 have d4:=(HX.out.below hb03 HX.out.lt).cell (i:=4) rfl
 have d5:=(HX.out.below hb03 HX.out.lt).cell (i:=5) rfl
 have d6:=(HX.out.below hb03 HX.out.lt).cell (i:=6) rfl
 have d7:=(HX.out.below hb03 HX.out.lt).cell (i:=7) rfl
 have d8:=(HX.out.below hb03 HX.out.lt).cell (i:=8) rfl
 have d9:=(HX.out.below hb03 HX.out.lt).cell (i:=9) rfl
 have d10:=(HX.out.below hb03 HX.out.lt).cell (i:=10) rfl
 have d11:=(HX.out.below hb03 HX.out.lt).cell (i:=11) rfl
 go_wp2_with fail
 with_reducible refine (K3.out W3).mono ?_
 rintro e W4 ⟨rfl,hb4⟩
 have B4:=B3.trans (hb4.mono B3.size)
 have hb04:=hb03.trans (hb4.mono hb03.size)
 clear K3 q1 d0 d1 d2 d3 d4 d5 d6 d7 d8 d9 d10 d11 hb03 hb4
 by_cases e3:optErr o=0
 rotate_left
 ·have q1:(optErr o != 0)=true:=by simpa using e3
  go_wp2_with fail
  with_reducible refine (KA.out W4 B4).mono ?_
  rintro e W9 ⟨rfl,hb9⟩
  have hbn:=(B4).trans (hb9.mono (B4).size)
  go_wp2_with fail
  go_ret
  exact ⟨rfl,hbn⟩
 have q1:(optErr o != 0)=false:=by simpa using e3
 have HNE:=Lib.hid (NE.out e1 e2 e3)
 clear e1 e2 e3 NE
 have d0:=(HX.out.below hb04 HX.out.lt).cell (i:=0) rfl
 have d1:=(HX.out.below hb04 HX.out.lt).cell (i:=1) rfl
 have d2:=(HX.out.below hb04 HX.out.lt).cell (i:=2) rfl
 have d3:=(HX.out.below hb04 HX.out.lt).cell (i:=3) rfl
 have d4:=(HX.out.below hb04 HX.out.lt).cell (i:=4) rfl
 have d5:=(HX.out.below hb04 HX.out.lt).cell (i:=5) rfl
 have d6:=(HX.out.below hb04 HX.out.lt).cell (i:=6) rfl
 have d7:=(HX.out.below hb04 HX.out.lt).cell (i:=7) rfl
 have d8:=(HX.out.below hb04 HX.out.lt).cell (i:=8) rfl
 have d9:=(HX.out.below hb04 HX.out.lt).cell (i:=9) rfl
 have d10:=(HX.out.below hb04 HX.out.lt).cell (i:=10) rfl
 have d11:=(HX.out.below hb04 HX.out.lt).cell (i:=11) rfl
 have KNi:=Lib.hid (KN.out W4 B4 HSM.out.1 HSM.out.2)
 rw [HNE.out] at KNi
 go_wp2_with fail
 with_reducible refine KNi.out.mono ?_
 rintro e W5 ⟨hb5,hcase⟩
 have B5:=B4.trans (hb5.mono B4.size)
 have hb05:=hb04.trans (hb5.mono hb04.size)
 rcases hcase with ⟨h0,_⟩ | ⟨_,lb,V',mb,rfl,hlst⟩
 ·exact absurd rfl h0
 have hz4:=B4.size
 have hs04:=hb04.size
 have HH:=Lib.hid hlst
 have HB5:=Lib.hid hb05
 clear KN KNi q1 d0 d1 d2 d3 d4 d5 d6 d7 d8 d9 d10 d11 hb04 hb5 hlst hb05
 go_wp2_with fail
 go_loopw [7] (fun u wr=>∃(j:Nat) (z:Int) (O:Option Addr) (oc cnt:Nat) (f:Int→Option Value) (L:Its),j≤l.length∧z=(j:Int) - 1∧u=.int .i64 z∧cnt+j≤l.length∧L.length+j≤l.length∧(∀p,p ∈ L ↔ ∃i,∃hi:i < l.length,j≤i∧p=((i:Int),l[i]))∧(∀i,(hi:i < l.length)→j≤i→l[i].length≤6)∧Lst wr lb W4.heap.size V' mb O oc cnt x c o f L∧Below W0.heap.size W0 wr) (fun u _=>(intOf u+1).toNat)
 case atStart=>exact ⟨l.length,(l.length:Int) - 1,none,0,0,_,[],Nat.le_refl _,rfl,by go_num,by omega,by simp,fun p=>⟨fun h=>(by cases h),fun ⟨i,hi,h1,_⟩=>absurd hi (by omega)⟩,fun i hi h1=>absurd hi (by omega),HH.out,HB5.out⟩
 obtain ⟨j,z,O,oc,cnt,f,L,hj,hz,rfl,hcn,hLn,hm,hle,hlst,hbr⟩:=hrel
 have HR:=Lib.hid hlst
 have HM:=Lib.hid hm
 have HLE:=Lib.hid hle
 have HBR:=Lib.hid hbr
 have hrs:=hbr.size
 have hlf:=hlst.lf
 have HLF:=Lib.hid hlf
 clear hlst hm hle HH hlf
 have hbw:=B0.trans (hbr.mono B0.size)
 by_cases hj0:j=0
 rotate_left
 ·obtain ⟨q,rfl⟩:∃q,j=q+1:=⟨j - 1,by omega⟩
  obtain rfl:z=(q:Int):=by omega
  clear hz hj0
  have hq:q < l.length:=by omega
  have q0:decide ((0:Int)≤(q:Int))=true:=by simp
  obtain ⟨b1,o1,rfl,hbl,hcell⟩:=HL.out.at hq
  obtain ⟨T,tk,k0,ht⟩:=hcell q hq
  have c0:=(hbw.cell (p:=⟨b1,o1+q,none⟩) hbl).trans k0
  have HFS:=Lib.hid (from_step (K:=kyN x c o) hq HM.out)
  have HLX:=Lib.hid (fun (h6:l[q].length≤6) i (hi:i < l.length) (h1:q≤i)=>show l[i].length≤6 from by
   by_cases e:i=q
   ·subst e;exact h6
   ·exact HLE.out i hi (by omega))
  have HT:=Lib.hid ht
  clear hcell ht hbr k0
  generalize l[q]=t at *
  go_wp2_with fail
  with_reducible refine (few01_any _ _ _ _ _).mono ?_
  rintro e Wz ⟨rfl,rfl⟩
  by_cases h6t:t.length≤6
  rotate_left
  ·have q6:decide ((t.length:Int)≤6)=false:=by simp;omega
   go_wp2_with fail
   with_reducible refine (KA.out wr hbw).mono ?_
   rintro e W9 ⟨rfl,hb9⟩
   have hbn:=(hbw).trans (hb9.mono (hbw).size)
   go_wp2_with fail
   go_ret
   exact ⟨rfl,hbn⟩
  have q6:decide ((t.length:Int)≤6)=true:=by simp;omega
  have apT:ApI (Lf lb mb O) wr T t:=⟨HT.out.1.below hbw,fun hne q' hq' hS'=>by
   have h1:=HLF.out q' hS'
   have h2:=sl_lt HT.out.1 (ints_ne hne) hq'
   omega⟩
  have RC:=Lib.hid (slPut_any HR.out (q:Int) (by unfold iok;exact WalkArith.wf_i64 (by omega)) T tk t apT (by omega) HT.out.2.2.2 (by have:=remL_len (L:=L) (id:=(q:Int));omega) (by unfold maxLen;omega))
  unfold RetL at RC
  go_wp2_with fail
  with_reducible refine RC.out.mono ?_
  rintro e W6 ⟨rfl,O',oc',f',h',hc',hO'⟩
  have HN:=Lib.hid h'
  have hbf:=chg_below HBR.out (by omega) hc' (by omega) HLF.out
  have hlen:=putL_len (K:=kyN x c o) (L:=L) (id:=(q:Int)) (t:=t)
  have hrl:=remL_len (L:=L) (id:=(q:Int))
  clear RC h' hc' hO' apT
  go_wp2_with fail
  go_roundw
  case rel=>exact ⟨q,(q:Int) - 1,O',oc',cnt+1,f',putL (kyN x c o) L q t,by omega,rfl,by go_num,by omega,by omega,HFS.out,HLX.out h6t,HN.out,hbf⟩
  case measure=>simp [intOf]
 ·subst hj0
  obtain rfl:z=-1:=by omega
  clear hz
  have q0:decide ((0:Int)≤-1)=false:=by decide
  have HKL:=Lib.hid (fun d (hd:d.Pairwise (OrdI (l.map (kyN x c o)))) (hz:∀z,z ∈ d ↔ z ∈ rngI l.length)=>list_sort (K:=kyN x c o) (L:=L) HR.out.srt (fun p=>by
   rw [HM.out p]
   constructor
   ·rintro ⟨i,hi,_,e⟩;exact ⟨i,hi,e⟩
   ·rintro ⟨i,hi,e⟩;exact ⟨i,hi,Nat.zero_le _,e⟩) hd hz)
  have hL6:=HR.out.len
  have HW:=Lib.hid (HB0.out.trans (hbr.mono HB0.out.size))
  have SH:=Lib.hid (fun W' (hb':Below wr.heap.size wr W')=>show W'.cell? ⟨w.heap.size,0,none⟩=some (.slice V.A0 x.cls.length V.k0)∧W'.cell? ⟨w.heap.size,1,none⟩=some (.slice V.A1 x.dec.length V.k1)∧W'.cell? ⟨w.heap.size,2,none⟩=some (.slice V.A2 x.exc.length V.k2)∧W'.cell? ⟨w.heap.size,3,none⟩=some (.slice V.C c.ents.length V.a)∧W'.cell? ⟨w.heap.size,4,none⟩=some (.slice V.B c.grps.length V.b)∧W'.cell? ⟨w.heap.size,5,none⟩=some (.int .i64 c.base)∧W'.cell? ⟨w.heap.size,6,none⟩=some (.int .i64 c.second)∧W'.cell? ⟨w.heap.size,7,none⟩=some (.int .i64 c.third)∧W'.cell? ⟨w.heap.size,8,none⟩=some (.int .i64 o.st)∧W'.cell? ⟨w.heap.size,9,none⟩=some (.int .i64 o.va)∧W'.cell? ⟨w.heap.size,10,none⟩=some (.bool o.bk)∧W'.cell? ⟨w.heap.size,11,none⟩=some (.bool o.idn)∧Below w.heap.size w W'∧Below wr.heap.size wr W' from by
   have q:=HX.out.below (HBR.out.trans (hb'.mono HBR.out.size)) hz0
   exact ⟨q.cell (i:=0) rfl,q.cell (i:=1) rfl,q.cell (i:=2) rfl,q.cell (i:=3) rfl,q.cell (i:=4) rfl,q.cell (i:=5) rfl,q.cell (i:=6) rfl,q.cell (i:=7) rfl,q.cell (i:=8) rfl,q.cell (i:=9) rfl,q.cell (i:=10) rfl,q.cell (i:=11) rfl,HW.out.trans (hb'.mono HW.out.size),hb'⟩)
  have KI:=Lib.hid (fun W (hS:W.cell? ⟨w.heap.size,0,none⟩=some (.slice V.A0 x.cls.length V.k0)∧W.cell? ⟨w.heap.size,1,none⟩=some (.slice V.A1 x.dec.length V.k1)∧W.cell? ⟨w.heap.size,2,none⟩=some (.slice V.A2 x.exc.length V.k2)∧W.cell? ⟨w.heap.size,3,none⟩=some (.slice V.C c.ents.length V.a)∧W.cell? ⟨w.heap.size,4,none⟩=some (.slice V.B c.grps.length V.b)∧W.cell? ⟨w.heap.size,5,none⟩=some (.int .i64 c.base)∧W.cell? ⟨w.heap.size,6,none⟩=some (.int .i64 c.second)∧W.cell? ⟨w.heap.size,7,none⟩=some (.int .i64 c.third)∧W.cell? ⟨w.heap.size,8,none⟩=some (.int .i64 o.st)∧W.cell? ⟨w.heap.size,9,none⟩=some (.int .i64 o.va)∧W.cell? ⟨w.heap.size,10,none⟩=some (.bool o.bk)∧W.cell? ⟨w.heap.size,11,none⟩=some (.bool o.idn)∧Below w.heap.size w W∧Below wr.heap.size wr W)=>(slItems_own (HR.out.below (hS.2.2.2.2.2.2.2.2.2.2.2.2.2))).mono (R':=fun e W'=>∃v,e=.returned v∧(W'.cell? ⟨w.heap.size,0,none⟩=some (.slice V.A0 x.cls.length V.k0)∧W'.cell? ⟨w.heap.size,1,none⟩=some (.slice V.A1 x.dec.length V.k1)∧W'.cell? ⟨w.heap.size,2,none⟩=some (.slice V.A2 x.exc.length V.k2)∧W'.cell? ⟨w.heap.size,3,none⟩=some (.slice V.C c.ents.length V.a)∧W'.cell? ⟨w.heap.size,4,none⟩=some (.slice V.B c.grps.length V.b)∧W'.cell? ⟨w.heap.size,5,none⟩=some (.int .i64 c.base)∧W'.cell? ⟨w.heap.size,6,none⟩=some (.int .i64 c.second)∧W'.cell? ⟨w.heap.size,7,none⟩=some (.int .i64 c.third)∧W'.cell? ⟨w.heap.size,8,none⟩=some (.int .i64 o.st)∧W'.cell? ⟨w.heap.size,9,none⟩=some (.int .i64 o.va)∧W'.cell? ⟨w.heap.size,10,none⟩=some (.bool o.bk)∧W'.cell? ⟨w.heap.size,11,none⟩=some (.bool o.idn)∧Below w.heap.size w W'∧Below wr.heap.size wr W')∧IsInts (idsL L) v W'∧Below W.heap.size W W') (fun e W' ⟨A,k,he,ho,hb⟩=>⟨_,he,SH.out W' ((hS.2.2.2.2.2.2.2.2.2.2.2.2.2).trans (hb.mono (hS.2.2.2.2.2.2.2.2.2.2.2.2.2).size)),⟨A,k,rfl,Sl.of_own ho⟩,hb⟩))
  have KO:=Lib.hid (fun W (hS:W.cell? ⟨w.heap.size,0,none⟩=some (.slice V.A0 x.cls.length V.k0)∧W.cell? ⟨w.heap.size,1,none⟩=some (.slice V.A1 x.dec.length V.k1)∧W.cell? ⟨w.heap.size,2,none⟩=some (.slice V.A2 x.exc.length V.k2)∧W.cell? ⟨w.heap.size,3,none⟩=some (.slice V.C c.ents.length V.a)∧W.cell? ⟨w.heap.size,4,none⟩=some (.slice V.B c.grps.length V.b)∧W.cell? ⟨w.heap.size,5,none⟩=some (.int .i64 c.base)∧W.cell? ⟨w.heap.size,6,none⟩=some (.int .i64 c.second)∧W.cell? ⟨w.heap.size,7,none⟩=some (.int .i64 c.third)∧W.cell? ⟨w.heap.size,8,none⟩=some (.int .i64 o.st)∧W.cell? ⟨w.heap.size,9,none⟩=some (.int .i64 o.va)∧W.cell? ⟨w.heap.size,10,none⟩=some (.bool o.bk)∧W.cell? ⟨w.heap.size,11,none⟩=some (.bool o.idn)∧Below w.heap.size w W∧Below wr.heap.size wr W)=>(sort_any V.A0 _ V.k0 V.A1 _ V.k1 V.A2 _ V.k2 x V.C _ V.a V.B _ V.b c o A a l W (HS.out.nrm.below (hS.2.2.2.2.2.2.2.2.2.2.2.2.1)) HSM.out.1 (HLd.out.below (hS.2.2.2.2.2.2.2.2.2.2.2.2.1)) (HS.out.col.below (hS.2.2.2.2.2.2.2.2.2.2.2.2.1)) HSM.out.2 (HL.out.below (hS.2.2.2.2.2.2.2.2.2.2.2.2.1)) (by omega) (fun t ht=>by
   obtain ⟨i,hi,rfl⟩:=List.getElem_of_mem ht
   have:=HLE.out i hi (Nat.zero_le _)
   omega)).mono (R':=fun e W'=>∃v,e=.returned v∧(W'.cell? ⟨w.heap.size,0,none⟩=some (.slice V.A0 x.cls.length V.k0)∧W'.cell? ⟨w.heap.size,1,none⟩=some (.slice V.A1 x.dec.length V.k1)∧W'.cell? ⟨w.heap.size,2,none⟩=some (.slice V.A2 x.exc.length V.k2)∧W'.cell? ⟨w.heap.size,3,none⟩=some (.slice V.C c.ents.length V.a)∧W'.cell? ⟨w.heap.size,4,none⟩=some (.slice V.B c.grps.length V.b)∧W'.cell? ⟨w.heap.size,5,none⟩=some (.int .i64 c.base)∧W'.cell? ⟨w.heap.size,6,none⟩=some (.int .i64 c.second)∧W'.cell? ⟨w.heap.size,7,none⟩=some (.int .i64 c.third)∧W'.cell? ⟨w.heap.size,8,none⟩=some (.int .i64 o.st)∧W'.cell? ⟨w.heap.size,9,none⟩=some (.int .i64 o.va)∧W'.cell? ⟨w.heap.size,10,none⟩=some (.bool o.bk)∧W'.cell? ⟨w.heap.size,11,none⟩=some (.bool o.idn)∧Below w.heap.size w W'∧Below wr.heap.size wr W')∧(∃A' d,v=.slice A' l.length l.length∧d.length=l.length∧Ints W' A' d∧d.Pairwise (OrdI (l.map (kyN x c o)))∧(∀z,z ∈ d ↔ z ∈ rngI l.length))∧Below W.heap.size W W') (fun e W' ⟨A',d,he,h1,h2,h3,h4,hb⟩=>⟨_,he,SH.out W' ((hS.2.2.2.2.2.2.2.2.2.2.2.2.2).trans (hb.mono (hS.2.2.2.2.2.2.2.2.2.2.2.2.2).size)),⟨A',d,rfl,h1,h2,h3,h4⟩,hb⟩))
  have KL:=Lib.hid (fun W (hS:W.cell? ⟨w.heap.size,0,none⟩=some (.slice V.A0 x.cls.length V.k0)∧W.cell? ⟨w.heap.size,1,none⟩=some (.slice V.A1 x.dec.length V.k1)∧W.cell? ⟨w.heap.size,2,none⟩=some (.slice V.A2 x.exc.length V.k2)∧W.cell? ⟨w.heap.size,3,none⟩=some (.slice V.C c.ents.length V.a)∧W.cell? ⟨w.heap.size,4,none⟩=some (.slice V.B c.grps.length V.b)∧W.cell? ⟨w.heap.size,5,none⟩=some (.int .i64 c.base)∧W.cell? ⟨w.heap.size,6,none⟩=some (.int .i64 c.second)∧W.cell? ⟨w.heap.size,7,none⟩=some (.int .i64 c.third)∧W.cell? ⟨w.heap.size,8,none⟩=some (.int .i64 o.st)∧W.cell? ⟨w.heap.size,9,none⟩=some (.int .i64 o.va)∧W.cell? ⟨w.heap.size,10,none⟩=some (.bool o.bk)∧W.cell? ⟨w.heap.size,11,none⟩=some (.bool o.idn)∧Below w.heap.size w W∧Below wr.heap.size wr W)=>(KA.out W (hS.2.2.2.2.2.2.2.2.2.2.2.2.1)).mono (R':=fun e W'=>e=.returned (.bool true)∧(W'.cell? ⟨w.heap.size,0,none⟩=some (.slice V.A0 x.cls.length V.k0)∧W'.cell? ⟨w.heap.size,1,none⟩=some (.slice V.A1 x.dec.length V.k1)∧W'.cell? ⟨w.heap.size,2,none⟩=some (.slice V.A2 x.exc.length V.k2)∧W'.cell? ⟨w.heap.size,3,none⟩=some (.slice V.C c.ents.length V.a)∧W'.cell? ⟨w.heap.size,4,none⟩=some (.slice V.B c.grps.length V.b)∧W'.cell? ⟨w.heap.size,5,none⟩=some (.int .i64 c.base)∧W'.cell? ⟨w.heap.size,6,none⟩=some (.int .i64 c.second)∧W'.cell? ⟨w.heap.size,7,none⟩=some (.int .i64 c.third)∧W'.cell? ⟨w.heap.size,8,none⟩=some (.int .i64 o.st)∧W'.cell? ⟨w.heap.size,9,none⟩=some (.int .i64 o.va)∧W'.cell? ⟨w.heap.size,10,none⟩=some (.bool o.bk)∧W'.cell? ⟨w.heap.size,11,none⟩=some (.bool o.idn)∧Below w.heap.size w W'∧Below wr.heap.size wr W')) (fun e W' ⟨he,hb⟩=>⟨he,SH.out W' ((hS.2.2.2.2.2.2.2.2.2.2.2.2.2).trans (hb.mono (hS.2.2.2.2.2.2.2.2.2.2.2.2.2).size))⟩))
  clear KA hbr
  go_wp2_with fail
  refine wp_region_held_drew (S:=fun W'=>W'.cell? ⟨w.heap.size,0,none⟩=some (.slice V.A0 x.cls.length V.k0)∧W'.cell? ⟨w.heap.size,1,none⟩=some (.slice V.A1 x.dec.length V.k1)∧W'.cell? ⟨w.heap.size,2,none⟩=some (.slice V.A2 x.exc.length V.k2)∧W'.cell? ⟨w.heap.size,3,none⟩=some (.slice V.C c.ents.length V.a)∧W'.cell? ⟨w.heap.size,4,none⟩=some (.slice V.B c.grps.length V.b)∧W'.cell? ⟨w.heap.size,5,none⟩=some (.int .i64 c.base)∧W'.cell? ⟨w.heap.size,6,none⟩=some (.int .i64 c.second)∧W'.cell? ⟨w.heap.size,7,none⟩=some (.int .i64 c.third)∧W'.cell? ⟨w.heap.size,8,none⟩=some (.int .i64 o.st)∧W'.cell? ⟨w.heap.size,9,none⟩=some (.int .i64 o.va)∧W'.cell? ⟨w.heap.size,10,none⟩=some (.bool o.bk)∧W'.cell? ⟨w.heap.size,11,none⟩=some (.bool o.idn)∧Below w.heap.size w W'∧Below wr.heap.size wr W') (by kernel_rfl) (SH.out _ ((Below.refl _ _).drew)) (fun hHeld=>?_)
  refine tK 0 79 ?_
  refine tK 2 81 ?_
  refine tK 3 82 ?_
  refine tK 4 83 ?_
  refine tK 5 84 ?_
  refine tK 6 85 ?_
  refine tK 7 86 ?_
  refine tK 8 87 ?_
  refine qE 1 80 (KI.out _ hHeld) ?_
  clear hHeld
  rintro _ W6 hHeld ⟨⟨P1,k1,rfl,hi1⟩,hq1⟩
  refine qE 9 88 (KO.out _ hHeld) ?_
  clear hHeld
  rintro _ W7 hHeld ⟨⟨P2,dd,rfl,hdl,hi2,hpw,hme⟩,hq2⟩
  have hi1':=Sl.below hi1 hq2
  have edd:=HKL.out dd hpw hme
  rw [←edd] at hi2 hdl
  clear hi1 hq1 hq2 hpw hme edd
  refine qK 10 89 ((equal_any P1 P2 _ _ k1 l.length (idsL L) (idsL L) _ hi1' hi2 rfl hdl (by omega) (by omega)).mono (R':=fun e w'=>e=.returned (.bool true)∧_) (fun e w' ⟨he,hq⟩=>⟨by rw [he];simp,SH.out w' ((hHeld.2.2.2.2.2.2.2.2.2.2.2.2.2).trans (hq.mono (hHeld.2.2.2.2.2.2.2.2.2.2.2.2.2).size))⟩)) ?_
  clear hHeld
  intro W8 hHeld
  refine tK 11 90 ?_
  refine qK 12 91 (KL.out _ hHeld) ?_
  clear hHeld
  intro W9 hHeld
  refine tK 13 92 ?_
  refine tK 14 4 ?_
  refine wpAnyH_done (by kernel_rfl) ?_ _
  have hfin:=hHeld.2.2.2.2.2.2.2.2.2.2.2.2.1
  clear hHeld SH KI KO KL
  go_wp2_with fail
  go_ret
  exact ⟨rfl,hfin⟩
end Go.Proofs.YtijgbonhjcblcaaGreatDoor
