/- Texts that are merged into one file: LawK. -/
import Derived.Test.YtijgbonhjcblcaaGreatDoorK20
import Derived.Test.YtijgbonhjcblcaaGreatDoorK21
import Derived.Test.YtijgbonhjcblcaaGreatDoorK23
set_option maxRecDepth 100000
set_option maxHeartbeats 51200000
namespace Go.Proofs.YtijgbonhjcblcaaGreatDoor
open Go.RowKit Go.Maps Go.WideMaps
theorem keyS_len (o:Opt) (x:Nrm) (c:Col) (t:List Int) (h:t.length≤10):(keyN (optD o) (elsN x c t) (dtx x false t)).length≤1048576:=by
 obtain ⟨⟨_,h4⟩,_⟩:=optD_bd o
 have h1:=joinW_len (optD o) (elsN x c t) h4 (wgtL (optD o) (elsN x c t)).length
 rw [List.take_length] at h1
 have h2:=elsN_len x c t
 have h3:=dtx_len x false t
 have h5:=idnL_len (dtx x false t)
 unfold keyN
 rw [List.length_append]
 split
 ·rw [List.length_cons];omega
 ·simp;omega
theorem keyP_len (o:Opt) (m2 m3:Int) (x:Nrm) (c:Col) (t:List Int) (h:t.length≤10):(Pk.keyP (optD o) m2 m3 (elsN x c t)).length≤1048576:=by
 obtain ⟨⟨_,h4⟩,_⟩:=optD_bd o
 have h1:=joinP_len (optD o) m2 m3 (elsN x c t) h4 (lvlsP (optD o) m2 m3 (elsN x c t)).length
 rw [List.take_length] at h1
 have h2:=elsN_len x c t
 have h3:Pk.keyP (optD o) m2 m3 (elsN x c t)=joinL (lvlsP (optD o) m2 m3 (elsN x c t)):=rfl
 rw [h3]
 omega
theorem b4_in {zs:List Int} (h:∀z ∈ zs,0≤z∧z < 4294967296):∀x ∈ zs.flatMap Pk.b4,0≤x∧x < 256:=by
 intro x hx
 obtain ⟨z,hz,hx⟩:=List.mem_flatMap.1 hx
 have:=h z hz
 simp [Pk.b4] at hx
 omega
theorem vb_in {zs:List Int} (h:∀z ∈ zs,0≤z∧z < 16777216):∀x ∈ zs.flatMap Pk.vb,0≤x∧x < 256:=by
 intro x hx
 obtain ⟨z,hz,hx⟩:=List.mem_flatMap.1 hx
 have:=h z hz
 unfold Pk.vb at hx
 split at hx
 ·simp at hx;omega
 ·split at hx
  ·simp at hx;omega
  ·simp at hx;omega
theorem top_bytes (o:Opt) (x:Nrm) (c:Col) (l r:List Int):cmpS (strOfNums ((keyN (optD o) (elsN x c l) (dtx x false l)).flatMap Pk.b4)) (strOfNums ((keyN (optD o) (elsN x c r) (dtx x false r)).flatMap Pk.b4))=cmpL (keyN (optD o) (elsN x c l) (dtx x false l)) (keyN (optD o) (elsN x c r) (dtx x false r)):=by
 rw [cmpS_str (b4_in (Pk.key_bd _ (Pk.bd_elsN x c l) _)) (b4_in (Pk.key_bd _ (Pk.bd_elsN x c r) _))]
 exact Pk.bytes_cmp _ (Pk.bd_elsN x c l) (Pk.bd_elsN x c r) _ _
theorem optD_idn {o:Opt} (h:o.idn=false):(optD o).idn=false:=by
 unfold optD
 split
 ·exact h
 ·rfl
theorem top_packed (o:Opt) (x:Nrm) (c:Col) (l r:List Int) (hi:o.idn=false):cmpS (strOfNums ((Pk.keyP (optD o) (cmN (secP c)) (cmN (thrP c)) (elsN x c l)).flatMap Pk.vb)) (strOfNums ((Pk.keyP (optD o) (cmN (secP c)) (cmN (thrP c)) (elsN x c r)).flatMap Pk.vb))=cmpL (keyN (optD o) (elsN x c l) (dtx x false l)) (keyN (optD o) (elsN x c r) (dtx x false r)):=by
 rw [cmpS_str (vb_in (Pk.keyP_bd _ (cmN_bd _) (cmN_bd _) (Pk.bd_elsN x c l))) (vb_in (Pk.keyP_bd _ (cmN_bd _) (cmN_bd _) (Pk.bd_elsN x c r)))]
 exact Pk.packed_cmp _ (optD_idn hi) (cmN_bd _) (cmN_bd _) (Pk.bd_elsN x c l) (Pk.bd_elsN x c r) _ _
theorem TopKeys_any (V:SetV) (x:Nrm) (c:Col) (o:Opt) (A:Option Addr) (a:Nat) (l:List Int) (B:Option Addr) (b:Nat) (r:List Int) (w:World) (hS:SetAt w V x c) (h1:Txt w A a l) (h2:Txt w B b r) (hL:Laid w) :
  Calls Tryz.prog 3 #[.agg #[.slice V.A0 x.cls.length V.k0,.slice V.A1 x.dec.length V.k1,.slice V.A2 x.exc.length V.k2,.slice V.C c.ents.length V.a,.slice V.B c.grps.length V.b,.int .i64 c.base,.int .i64 c.second,.int .i64 c.third,.int .i64 o.st,.int .i64 o.va,.bool o.bk,.bool o.idn],.slice A l.length a,.slice B r.length b] w (RetTrue w):=by
 have B0:Below w.heap.size w (w.alloc (.cells #[.slice V.A0 x.cls.length V.k0,.slice V.A1 x.dec.length V.k1,.slice V.A2 x.exc.length V.k2,.slice V.C c.ents.length V.a,.slice V.B c.grps.length V.b,.int .i64 c.base,.int .i64 c.second,.int .i64 c.third,.int .i64 o.st,.int .i64 o.va,.bool o.bk,.bool o.idn] 36)):=(Below.refl _ _).alloc (Nat.le_refl _) _
 have X0:Box (w.alloc (.cells #[.slice V.A0 x.cls.length V.k0,.slice V.A1 x.dec.length V.k1,.slice V.A2 x.exc.length V.k2,.slice V.C c.ents.length V.a,.slice V.B c.grps.length V.b,.int .i64 c.base,.int .i64 c.second,.int .i64 c.third,.int .i64 o.st,.int .i64 o.va,.bool o.bk,.bool o.idn] 36)) w.heap.size 36 [.slice V.A0 x.cls.length V.k0,.slice V.A1 x.dec.length V.k1,.slice V.A2 x.exc.length V.k2,.slice V.C c.ents.length V.a,.slice V.B c.grps.length V.b,.int .i64 c.base,.int .i64 c.second,.int .i64 c.third,.int .i64 o.st,.int .i64 o.va,.bool o.bk,.bool o.idn]:=Box.new _ _ _ rfl
 have W0E:∃W0,(w.alloc (.cells #[.slice V.A0 x.cls.length V.k0,.slice V.A1 x.dec.length V.k1,.slice V.A2 x.exc.length V.k2,.slice V.C c.ents.length V.a,.slice V.B c.grps.length V.b,.int .i64 c.base,.int .i64 c.second,.int .i64 c.third,.int .i64 o.st,.int .i64 o.va,.bool o.bk,.bool o.idn] 36))=W0:=⟨_,rfl⟩
 have KA:=Lib.hid (fun W (hb:Below w.heap.size w W)=>alive7_any W (hL.below hb))
 have KS:=Lib.hid (fun W (hb:Below w.heap.size w W)=>small_any V x c o W (hS.below hb))
 have KC:=Lib.hid (fun W (hb:Below w.heap.size w W) (hz:NrmSz x) (hz2:ColSz c) (h3:l.length≤10) (h4:r.length≤10)=>compare_any V.A0 _ V.k0 V.A1 _ V.k1 V.A2 _ V.k2 x V.C _ V.a V.B _ V.b c o A _ a l B _ b r W (hS.nrm.below hb) hz (hL.below hb) (hS.col.below hb) hz2 (h1.1.below hb) rfl (by omega) h1.2.2.2 (h2.1.below hb) rfl (by omega) h2.2.2.2)
 have KB:=Lib.hid (fun A k zs W (hA:Ints W A zs) hz hbig=>bytes_any A zs.length k zs W hA rfl hz hbig)
 have KV:=Lib.hid (fun A k zs W (hA:Ints W A zs) hz hbig=>varint_any A zs.length k zs W hA rfl hz hbig)
 have TB:=Lib.hid (top_bytes o x c l r)
 have TP:=Lib.hid (top_packed o x c l r)
 have KK1:=Lib.hid (fun W (hb:Below w.heap.size w W) (hz:NrmSz x) (hz2:ColSz c) (h:l.length≤10)=>key_own V.A0 _ V.k0 V.A1 _ V.k1 V.A2 _ V.k2 x V.C _ V.a V.B _ V.b c o A _ a l W (hS.nrm.below hb) hz (hL.below hb) (hS.col.below hb) hz2 (h1.1.below hb) rfl (by omega) h1.2.2.2)
 have KP1:=Lib.hid (fun W (hb:Below w.heap.size w W) (hz:NrmSz x) (hz2:ColSz c) (h:l.length≤10)=>pkey_own V.A0 _ V.k0 V.A1 _ V.k1 V.A2 _ V.k2 x V.C _ V.a V.B _ V.b c o A _ a l W (hS.nrm.below hb) hz (hL.below hb) (hS.col.below hb) hz2 (h1.1.below hb) rfl (by omega) h1.2.2.2)
 have LK1:=Lib.hid (fun (h:l.length≤10)=>keyS_len o x c l h)
 have LP1:=Lib.hid (fun (h:l.length≤10)=>keyP_len o (cmN (secP c)) (cmN (thrP c)) x c l h)
 have ZK1:=Lib.hid (Pk.key_bd (optD o) (Pk.bd_elsN x c l) (dtx x false l))
 have ZP1:=Lib.hid (Pk.keyP_bd (optD o) (cmN_bd (secP c)) (cmN_bd (thrP c)) (Pk.bd_elsN x c l))
 have KK2:=Lib.hid (fun W (hb:Below w.heap.size w W) (hz:NrmSz x) (hz2:ColSz c) (h:r.length≤10)=>key_own V.A0 _ V.k0 V.A1 _ V.k1 V.A2 _ V.k2 x V.C _ V.a V.B _ V.b c o B _ b r W (hS.nrm.below hb) hz (hL.below hb) (hS.col.below hb) hz2 (h2.1.below hb) rfl (by omega) h2.2.2.2)
 have KP2:=Lib.hid (fun W (hb:Below w.heap.size w W) (hz:NrmSz x) (hz2:ColSz c) (h:r.length≤10)=>pkey_own V.A0 _ V.k0 V.A1 _ V.k1 V.A2 _ V.k2 x V.C _ V.a V.B _ V.b c o B _ b r W (hS.nrm.below hb) hz (hL.below hb) (hS.col.below hb) hz2 (h2.1.below hb) rfl (by omega) h2.2.2.2)
 have LK2:=Lib.hid (fun (h:r.length≤10)=>keyS_len o x c r h)
 have LP2:=Lib.hid (fun (h:r.length≤10)=>keyP_len o (cmN (secP c)) (cmN (thrP c)) x c r h)
 have ZK2:=Lib.hid (Pk.key_bd (optD o) (Pk.bd_elsN x c r) (dtx x false r))
 have ZP2:=Lib.hid (Pk.keyP_bd (optD o) (cmN_bd (secP c)) (cmN_bd (thrP c)) (Pk.bd_elsN x c r))
 have SM:=Lib.hid (fun (h:(smallS x&&smallC c)=true)=>show NrmSz x∧ColSz c from by
  rw [Bool.and_eq_true] at h
  exact ⟨smallS_sz h.1,(small_sz h.2).1⟩)
 generalize keyN (optD o) (elsN x c l) (dtx x false l)=k1 at *
 generalize keyN (optD o) (elsN x c r) (dtx x false r)=k2 at *
 generalize Pk.keyP (optD o) (cmN (secP c)) (cmN (thrP c)) (elsN x c l)=p1 at *
 generalize Pk.keyP (optD o) (cmN (secP c)) (cmN (thrP c)) (elsN x c r)=p2 at *
 unfold RetTrue at KA ⊢
 unfold RetBool at KS
 unfold RetInt at KC
 unfold RetOwnI at KK1 KK2 KP1 KP2
 unfold colV at KK1 KK2 KP1 KP2
 clear hS h1 h2 hL
 go_enter Tryz.func3,Tryz.ntmps3
 go_upto_region 1 with (fail)
 obtain ⟨W0,hW0⟩:=W0E
 try rw [hW0] at B0 X0 ⊢
 clear hW0
 have HX:=Lib.hid X0
 have hz0:=X0.lt
 have HB0:=Lib.hid B0
 clear X0
 have d0:=(HX.out.below (Below.refl _ _) HX.out.lt).cell (i:=0) rfl
 have d1:=(HX.out.below (Below.refl _ _) HX.out.lt).cell (i:=1) rfl
 have d2:=(HX.out.below (Below.refl _ _) HX.out.lt).cell (i:=2) rfl
 have d3:=(HX.out.below (Below.refl _ _) HX.out.lt).cell (i:=3) rfl
 have d4:=(HX.out.below (Below.refl _ _) HX.out.lt).cell (i:=4) rfl
 have d5:=(HX.out.below (Below.refl _ _) HX.out.lt).cell (i:=5) rfl
 have d6:=(HX.out.below (Below.refl _ _) HX.out.lt).cell (i:=6) rfl
 have d7:=(HX.out.below (Below.refl _ _) HX.out.lt).cell (i:=7) rfl
 have d8:=(HX.out.below (Below.refl _ _) HX.out.lt).cell (i:=8) rfl
 have d9:=(HX.out.below (Below.refl _ _) HX.out.lt).cell (i:=9) rfl
 have d10:=(HX.out.below (Below.refl _ _) HX.out.lt).cell (i:=10) rfl
 have d11:=(HX.out.below (Below.refl _ _) HX.out.lt).cell (i:=11) rfl
 have KSi:=Lib.hid (KS.out W0 B0)
 generalize (smallS x&&smallC c)=sm at *
 go_wp2_with fail
 with_reducible refine KSi.out.mono ?_
 rintro e W1 ⟨rfl,hb1⟩
 have B1:=B0.trans (hb1.mono B0.size)
 clear KS KSi d0 d1 d2 d3 d4 d5 d6 d7 d8 d9 d10 d11
 cases sm with
 | false=>
  go_wp2_with fail
  with_reducible refine (KA.out W1 B1).mono ?_
  rintro e W9 ⟨rfl,hb9⟩
  have hbn:=(B1).trans (hb9.mono (B1).size)
  go_wp2_with fail
  go_ret
  exact ⟨rfl,hbn⟩
 | true=>
 obtain ⟨hsz1,hsz2⟩:=SM.out rfl
 clear SM
 go_wp2_with fail
 with_reducible refine (few01_any _ _ _ _ _).mono ?_
 rintro e Wz ⟨rfl,rfl⟩
 by_cases h10:l.length≤10
 rotate_left
 ·have q6:decide ((l.length:Int)≤10)=false:=by simp;omega
  go_wp2_with fail
  with_reducible refine (KA.out W1 B1).mono ?_
  rintro e W9 ⟨rfl,hb9⟩
  have hbn:=(B1).trans (hb9.mono (B1).size)
  go_wp2_with fail
  go_ret
  exact ⟨rfl,hbn⟩
 have q6:decide ((l.length:Int)≤10)=true:=by simp;omega
 go_wp2_with fail
 with_reducible refine (few01_any _ _ _ _ _).mono ?_
 rintro e Wz ⟨rfl,rfl⟩
 by_cases h11:r.length≤10
 rotate_left
 ·have q7:decide ((r.length:Int)≤10)=false:=by simp;omega
  go_wp2_with fail
  with_reducible refine (KA.out W1 B1).mono ?_
  rintro e W9 ⟨rfl,hb9⟩
  have hbn:=(B1).trans (hb9.mono (B1).size)
  go_wp2_with fail
  go_ret
  exact ⟨rfl,hbn⟩
 have q7:decide ((r.length:Int)≤10)=true:=by simp;omega
 have d0:=(HX.out.below hb1 HX.out.lt).cell (i:=0) rfl
 have d1:=(HX.out.below hb1 HX.out.lt).cell (i:=1) rfl
 have d2:=(HX.out.below hb1 HX.out.lt).cell (i:=2) rfl
 have d3:=(HX.out.below hb1 HX.out.lt).cell (i:=3) rfl
 have d4:=(HX.out.below hb1 HX.out.lt).cell (i:=4) rfl
 have d5:=(HX.out.below hb1 HX.out.lt).cell (i:=5) rfl
 have d6:=(HX.out.below hb1 HX.out.lt).cell (i:=6) rfl
 have d7:=(HX.out.below hb1 HX.out.lt).cell (i:=7) rfl
 have d8:=(HX.out.below hb1 HX.out.lt).cell (i:=8) rfl
 have d9:=(HX.out.below hb1 HX.out.lt).cell (i:=9) rfl
 have d10:=(HX.out.below hb1 HX.out.lt).cell (i:=10) rfl
 have d11:=(HX.out.below hb1 HX.out.lt).cell (i:=11) rfl
 have KCi:=Lib.hid (KC.out W1 B1 hsz1 hsz2 h10 h11)
 generalize hcc:cmpL k1 k2=cc at *
 clear hcc
 go_wp2_with fail
 with_reducible refine KCi.out.mono ?_
 rintro e W2 ⟨rfl,hb2⟩
 have B2:=B1.trans (hb2.mono B1.size)
 have hb02:=hb1.trans (hb2.mono hb1.size)
 clear KC KCi q6 q7 d0 d1 d2 d3 d4 d5 d6 d7 d8 d9 d10 d11 hb1 hb2
 have d0:=(HX.out.below hb02 HX.out.lt).cell (i:=0) rfl
 have d1:=(HX.out.below hb02 HX.out.lt).cell (i:=1) rfl
 have d2:=(HX.out.below hb02 HX.out.lt).cell (i:=2) rfl
 have d3:=(HX.out.below hb02 HX.out.lt).cell (i:=3) rfl
 have d4:=(HX.out.below hb02 HX.out.lt).cell (i:=4) rfl
 have d5:=(HX.out.below hb02 HX.out.lt).cell (i:=5) rfl
 have d6:=(HX.out.below hb02 HX.out.lt).cell (i:=6) rfl
 have d7:=(HX.out.below hb02 HX.out.lt).cell (i:=7) rfl
 have d8:=(HX.out.below hb02 HX.out.lt).cell (i:=8) rfl
 have d9:=(HX.out.below hb02 HX.out.lt).cell (i:=9) rfl
 have d10:=(HX.out.below hb02 HX.out.lt).cell (i:=10) rfl
 have d11:=(HX.out.below hb02 HX.out.lt).cell (i:=11) rfl
 have Ki:=Lib.hid (KK1.out W2 B2 hsz1 hsz2 h10)
 go_wp2_with fail
 with_reducible refine Ki.out.mono ?_
 rintro e W3 ⟨A3,e3,rfl,ho3,hb3⟩
 have B3:=B2.trans (hb3.mono B2.size)
 have hb03:=hb02.trans (hb3.mono hb02.size)
 have HI3:=Lib.hid (Sl.of_own ho3)
 clear Ki KK1 d0 d1 d2 d3 d4 d5 d6 d7 d8 d9 d10 d11 ho3 hb3
 have Ki:=Lib.hid (KB.out A3 e3 k1 W3 HI3.out ZK1.out (LK1.out h10))
 go_wp2_with fail
 with_reducible refine Ki.out.mono ?_
 rintro e W4 ⟨rfl,hb4⟩
 have B4:=B3.trans (hb4.mono B3.size)
 have hb04:=hb03.trans (hb4.mono hb03.size)
 clear Ki hb4
 have d0:=(HX.out.below hb04 HX.out.lt).cell (i:=0) rfl
 have d1:=(HX.out.below hb04 HX.out.lt).cell (i:=1) rfl
 have d2:=(HX.out.below hb04 HX.out.lt).cell (i:=2) rfl
 have d3:=(HX.out.below hb04 HX.out.lt).cell (i:=3) rfl
 have d4:=(HX.out.below hb04 HX.out.lt).cell (i:=4) rfl
 have d5:=(HX.out.below hb04 HX.out.lt).cell (i:=5) rfl
 have d6:=(HX.out.below hb04 HX.out.lt).cell (i:=6) rfl
 have d7:=(HX.out.below hb04 HX.out.lt).cell (i:=7) rfl
 have d8:=(HX.out.below hb04 HX.out.lt).cell (i:=8) rfl
 have d9:=(HX.out.below hb04 HX.out.lt).cell (i:=9) rfl
 have d10:=(HX.out.below hb04 HX.out.lt).cell (i:=10) rfl
 have d11:=(HX.out.below hb04 HX.out.lt).cell (i:=11) rfl
 have Ki:=Lib.hid (KK2.out W4 B4 hsz1 hsz2 h11)
 go_wp2_with fail
 with_reducible refine Ki.out.mono ?_
 rintro e W5 ⟨A5,e5,rfl,ho5,hb5⟩
 have B5:=B4.trans (hb5.mono B4.size)
 have hb05:=hb04.trans (hb5.mono hb04.size)
 have HI5:=Lib.hid (Sl.of_own ho5)
 clear Ki KK2 d0 d1 d2 d3 d4 d5 d6 d7 d8 d9 d10 d11 ho5 hb5
 have Ki:=Lib.hid (KB.out A5 e5 k2 W5 HI5.out ZK2.out (LK2.out h11))
 go_wp2_with fail
 with_reducible refine Ki.out.mono ?_
 rintro e W6 ⟨rfl,hb6⟩
 have B6:=B5.trans (hb6.mono B5.size)
 have hb06:=hb05.trans (hb6.mono hb05.size)
 clear Ki hb6
 generalize strOfNums (k1.flatMap Pk.b4)=s1 at *
 generalize strOfNums (k2.flatMap Pk.b4)=s2 at *
 go_wp2_with fail
 with_reducible refine (sign_any _ _ _).mono ?_
 rintro e Wz ⟨rfl,rfl⟩
 have q8:(cc != cmpS s1 s2)=false:=by rw [TB.out];simp
 have d0:=(HX.out.below hb06 HX.out.lt).cell (i:=0) rfl
 have d1:=(HX.out.below hb06 HX.out.lt).cell (i:=1) rfl
 have d2:=(HX.out.below hb06 HX.out.lt).cell (i:=2) rfl
 have d3:=(HX.out.below hb06 HX.out.lt).cell (i:=3) rfl
 have d4:=(HX.out.below hb06 HX.out.lt).cell (i:=4) rfl
 have d5:=(HX.out.below hb06 HX.out.lt).cell (i:=5) rfl
 have d6:=(HX.out.below hb06 HX.out.lt).cell (i:=6) rfl
 have d7:=(HX.out.below hb06 HX.out.lt).cell (i:=7) rfl
 have d8:=(HX.out.below hb06 HX.out.lt).cell (i:=8) rfl
 have d9:=(HX.out.below hb06 HX.out.lt).cell (i:=9) rfl
 have d10:=(HX.out.below hb06 HX.out.lt).cell (i:=10) rfl
 have d11:=(HX.out.below hb06 HX.out.lt).cell (i:=11) rfl
 cases hid:o.idn with
 | true=>
  rw [hid] at d11
  go_wp2_with fail
  with_reducible refine (KA.out W6 B6).mono ?_
  rintro e W9 ⟨rfl,hb9⟩
  have hbn:=(B6).trans (hb9.mono (B6).size)
  go_wp2_with fail
  go_ret
  exact ⟨rfl,hbn⟩
 | false=>
 have TPi:=Lib.hid (TP.out hid)
 rw [hid] at HX KP1 KP2
 clear d0 d1 d2 d3 d4 d5 d6 d7 d8 d9 d10 d11
 have d0:=(HX.out.below hb06 HX.out.lt).cell (i:=0) rfl
 have d1:=(HX.out.below hb06 HX.out.lt).cell (i:=1) rfl
 have d2:=(HX.out.below hb06 HX.out.lt).cell (i:=2) rfl
 have d3:=(HX.out.below hb06 HX.out.lt).cell (i:=3) rfl
 have d4:=(HX.out.below hb06 HX.out.lt).cell (i:=4) rfl
 have d5:=(HX.out.below hb06 HX.out.lt).cell (i:=5) rfl
 have d6:=(HX.out.below hb06 HX.out.lt).cell (i:=6) rfl
 have d7:=(HX.out.below hb06 HX.out.lt).cell (i:=7) rfl
 have d8:=(HX.out.below hb06 HX.out.lt).cell (i:=8) rfl
 have d9:=(HX.out.below hb06 HX.out.lt).cell (i:=9) rfl
 have d10:=(HX.out.below hb06 HX.out.lt).cell (i:=10) rfl
 have d11:=(HX.out.below hb06 HX.out.lt).cell (i:=11) rfl
 have Ki:=Lib.hid (KP1.out W6 B6 hsz1 hsz2 h10)
 go_wp2_with fail
 with_reducible refine Ki.out.mono ?_
 rintro e W7 ⟨A7,e7,rfl,ho7,hb7⟩
 have B7:=B6.trans (hb7.mono B6.size)
 have hb07:=hb06.trans (hb7.mono hb06.size)
 have HI7:=Lib.hid (Sl.of_own ho7)
 clear Ki KP1 d0 d1 d2 d3 d4 d5 d6 d7 d8 d9 d10 d11 ho7 hb7
 have Ki:=Lib.hid (KV.out A7 e7 p1 W7 HI7.out ZP1.out (LP1.out h10))
 go_wp2_with fail
 with_reducible refine Ki.out.mono ?_
 rintro e W8 ⟨rfl,hb8⟩
 have B8:=B7.trans (hb8.mono B7.size)
 have hb08:=hb07.trans (hb8.mono hb07.size)
 clear Ki hb8
 have d0:=(HX.out.below hb08 HX.out.lt).cell (i:=0) rfl
 have d1:=(HX.out.below hb08 HX.out.lt).cell (i:=1) rfl
 have d2:=(HX.out.below hb08 HX.out.lt).cell (i:=2) rfl
 have d3:=(HX.out.below hb08 HX.out.lt).cell (i:=3) rfl
 have d4:=(HX.out.below hb08 HX.out.lt).cell (i:=4) rfl
 have d5:=(HX.out.below hb08 HX.out.lt).cell (i:=5) rfl
 have d6:=(HX.out.below hb08 HX.out.lt).cell (i:=6) rfl
 have d7:=(HX.out.below hb08 HX.out.lt).cell (i:=7) rfl
 have d8:=(HX.out.below hb08 HX.out.lt).cell (i:=8) rfl
 have d9:=(HX.out.below hb08 HX.out.lt).cell (i:=9) rfl
 have d10:=(HX.out.below hb08 HX.out.lt).cell (i:=10) rfl
 have d11:=(HX.out.below hb08 HX.out.lt).cell (i:=11) rfl
 have Ki:=Lib.hid (KP2.out W8 B8 hsz1 hsz2 h11)
 go_wp2_with fail
 with_reducible refine Ki.out.mono ?_
 rintro e W9 ⟨A9,e9,rfl,ho9,hb9⟩
 have B9:=B8.trans (hb9.mono B8.size)
 have hb09:=hb08.trans (hb9.mono hb08.size)
 have HI9:=Lib.hid (Sl.of_own ho9)
 clear Ki KP2 d0 d1 d2 d3 d4 d5 d6 d7 d8 d9 d10 d11 ho9 hb9
 have Ki:=Lib.hid (KV.out A9 e9 p2 W9 HI9.out ZP2.out (LP2.out h11))
 go_wp2_with fail
 with_reducible refine Ki.out.mono ?_
 rintro e W10 ⟨rfl,hb10⟩
 have B10:=B9.trans (hb10.mono B9.size)
 have hb010:=hb09.trans (hb10.mono hb09.size)
 clear Ki hb10
 have KAi:=Lib.hid (KA.out W10 B10)
 generalize strOfNums (p1.flatMap Pk.vb)=u1 at *
 generalize strOfNums (p2.flatMap Pk.vb)=u2 at *
 go_wp2_with fail
 with_reducible refine (sign_any _ _ _).mono ?_
 rintro e Wz ⟨rfl,rfl⟩
 have q9:(cc==cmpS u1 u2)=true:=by rw [TPi.out];simp
 clear TPi TP KA
 go_wp2_with fail
 with_reducible refine KAi.out.mono ?_
 rintro e W11 ⟨rfl,hb11⟩
 have hbn:=B10.trans (hb11.mono B10.size)
 go_wp2_with fail
 go_ret
 exact ⟨rfl,hbn⟩
end Go.Proofs.YtijgbonhjcblcaaGreatDoor
