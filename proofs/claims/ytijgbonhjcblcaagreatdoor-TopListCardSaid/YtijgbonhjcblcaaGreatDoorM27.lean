/- Texts that are merged into one file: CpEqual, TlNf, TlAlive, TlIns, SlRun. -/
import Derived.Test.YtijgbonhjcblcaaGreatDoorM02
import Derived.Test.YtijgbonhjcblcaaGreatDoorM11
import Derived.Test.YtijgbonhjcblcaaGreatDoorM12
import Derived.Test.YtijgbonhjcblcaaGreatDoorM22
import Derived.Test.YtijgbonhjcblcaaGreatDoorM23
import Derived.Test.YtijgbonhjcblcaaGreatDoorM26
set_option maxRecDepth 100000
set_option maxHeartbeats 51200000
namespace Go.Proofs.YtijgbonhjcblcaaGreatDoor
open Go.RowKit
theorem cpEqual_any (A B:Option Addr) (n m c d:Nat) (xs ys:List Int) (w:World) (hA:Ints w A xs) (hB:Ints w B ys) (hn:xs.length=n) (hm:ys.length=m)
  (hn':n≤9223372036854775807) (hm':m≤9223372036854775807) :
  Calls Tryz.prog 64 #[.slice A n c,.slice B m d] w fun e w'=>e=.returned (.bool (decide (xs=ys)))∧Qt w w':=by
 have hd:decide (xs=ys)=(cmpL xs ys==0):=by
  rw [Bool.eq_iff_iff];simp [cmpL_eq_zero]
 rw [hd];clear hd
 have HC:=Lib.hid (cpCompare_any A B n m c d xs ys w hA hB hn hm hn' hm')
 clear hA hB hn hm
 go_enter Tryz.func64,Tryz.ntmps64
 go_wp2_with fail
 refine HC.out.mono ?_
 rintro e w' ⟨rfl,q,rfl⟩
 go_wp2_with fail
 go_ret
 exact ⟨rfl,by repeat (first | exact Qt.refl _ | refine Qt.drewN ?_ _)⟩
end Go.Proofs.YtijgbonhjcblcaaGreatDoor
namespace Go.Proofs.YtijgbonhjcblcaaGreatDoor
open Go.RowKit Go.Maps Go.WideMaps
def IsInts (zs:List Int) (v:Value) (w:World):Prop:=∃A k,v=.slice A zs.length k∧Ints w A zs
theorem IsInts.below {zs:List Int} {v:Value} {w w':World} (h:IsInts zs v w) (hb:Below w.heap.size w w'):IsInts zs v w':=by
 obtain ⟨A,k,e,h⟩:=h
 exact ⟨A,k,e,h.below hb⟩
theorem canonical_own (A0:Option Addr) (n0 k0:Nat) (A1:Option Addr) (n1 k1:Nat) (A2:Option Addr) (n2 k2:Nat) (x:Nrm) (D:Option Addr) (dn dk:Nat) (t:List Int) (w:World) (hN:NrmAt w A0 n0 A1 n1 A2 n2 x) (hz:NrmSz x) (hL:Laid w) (hD:Ints w D t) (hn:t.length=dn) (hbig:dn≤16384) (hio:∀z ∈ t,iok z) :
  Calls Tryz.prog 62 #[.agg #[.slice A0 n0 k0,.slice A1 n1 k1,.slice A2 n2 k2],.slice D dn dk] w (RetOwnI (dtx x false t) w):=by
 have B0:Below w.heap.size w (w.alloc (.cells #[.slice A0 n0 k0,.slice A1 n1 k1,.slice A2 n2 k2] 107)):=(by repeat (first | exact Below.refl _ _ | refine Below.alloc ?_ (by (try simp) <;> omega) _))
 have X0:Box (w.alloc (.cells #[.slice A0 n0 k0,.slice A1 n1 k1,.slice A2 n2 k2] 107)) (w.heap.size) 107 [.slice A0 n0 k0,.slice A1 n1 k1,.slice A2 n2 k2]:=Box.new w 107 [.slice A0 n0 k0,.slice A1 n1 k1,.slice A2 n2 k2] rfl
 have W0E:∃W0,(w.alloc (.cells #[.slice A0 n0 k0,.slice A1 n1 k1,.slice A2 n2 k2] 107))=W0:=⟨_,rfl⟩
 have DC:=Lib.hid (fun W (hb:Below w.heap.size w W)=>dText_own A0 n0 k0 A1 n1 k1 A2 n2 k2 x D dn dk t false W (hN.below hb) hz (hL.below hb) (hD.below hb) hn hbig hio)
 unfold RetOwnI at DC ⊢
 clear hN hz hL hD
 go_enter Tryz.func62,Tryz.ntmps62
 go_upto_region 1 with (fail)
 obtain ⟨W0,hW0⟩:=W0E
 try rw [hW0] at B0 X0 ⊢
 clear hW0
 have c0:=X0.cell (i:=0) rfl
 have c1:=X0.cell (i:=1) rfl
 have c2:=X0.cell (i:=2) rfl
 go_wp2_with fail
 with_reducible refine (DC.out W0 B0).mono ?_
 rintro e W1 ⟨A,k,rfl,ho,hb⟩
 go_wp2_with fail
 go_ret
 exact ⟨A,k,rfl,own_mono ho B0.size,B0.trans (hb.mono B0.size)⟩
theorem neq_nil (W:World):(binOp .neq 96 .nilFunc .nilFunc).run Tryz.prog W=.ok (.bool false) W:=by kernel_rfl
theorem formD_own (A0:Option Addr) (n0 k0:Nat) (A1:Option Addr) (n1 k1:Nat) (A2:Option Addr) (n2 k2:Nat) (x:Nrm) (D:Option Addr) (dn dk:Nat) (t:List Int) (w:World) (hN:NrmAt w A0 n0 A1 n1 A2 n2 x) (hz:NrmSz x) (hL:Laid w) (hD:Ints w D t) (hn:t.length=dn) (hbig:dn≤16384) (hio:∀z ∈ t,iok z) :
  Calls Tryz.prog 24 #[.agg #[.slice A0 n0 k0,.slice A1 n1 k1,.slice A2 n2 k2],.int .i64 2,.slice D dn dk] w (RetOwnI (dtx x false t) w):=by
 have B0:Below w.heap.size w (w.alloc (.cells #[.slice A0 n0 k0,.slice A1 n1 k1,.slice A2 n2 k2] 28)):=(by repeat (first | exact Below.refl _ _ | refine Below.alloc ?_ (by (try simp) <;> omega) _))
 have X0:Box (w.alloc (.cells #[.slice A0 n0 k0,.slice A1 n1 k1,.slice A2 n2 k2] 28)) (w.heap.size) 28 [.slice A0 n0 k0,.slice A1 n1 k1,.slice A2 n2 k2]:=Box.new w 28 [.slice A0 n0 k0,.slice A1 n1 k1,.slice A2 n2 k2] rfl
 have W0E:∃W0,(w.alloc (.cells #[.slice A0 n0 k0,.slice A1 n1 k1,.slice A2 n2 k2] 28))=W0:=⟨_,rfl⟩
 have nf:=neq_nil
 have DC:=Lib.hid (fun W (hb:Below w.heap.size w W)=>canonical_own A0 n0 k0 A1 n1 k1 A2 n2 k2 x D dn dk t W (hN.below hb) hz (hL.below hb) (hD.below hb) hn hbig hio)
 unfold RetOwnI at DC ⊢
 clear hN hz hL hD
 go_enter Tryz.func24,Tryz.ntmps24
 go_upto_region 1 with (fail)
 obtain ⟨W0,hW0⟩:=W0E
 try rw [hW0] at B0 X0 ⊢
 clear hW0
 have c0:=X0.cell (i:=0) rfl
 have c1:=X0.cell (i:=1) rfl
 have c2:=X0.cell (i:=2) rfl
 have B1:Below W0.heap.size W0 (W0.alloc (.cells #[.slice A0 n0 k0,.slice A1 n1 k1,.slice A2 n2 k2] 107)):=(Below.refl _ _).alloc (Nat.le_refl _) _
 have X1:Box (W0.alloc (.cells #[.slice A0 n0 k0,.slice A1 n1 k1,.slice A2 n2 k2] 107)) W0.heap.size 107 [.slice A0 n0 k0,.slice A1 n1 k1,.slice A2 n2 k2]:=Box.new _ _ _ rfl
 have W1E:∃W1,(W0.alloc (.cells #[.slice A0 n0 k0,.slice A1 n1 k1,.slice A2 n2 k2] 107))=W1:=⟨_,rfl⟩
 go_upto_region 2 with (fail)
 obtain ⟨W1,hW1⟩:=W1E
 try rw [hW1] at B1 X1 ⊢
 clear hW1 c0 c1 c2
 have B01:=B0.trans (B1.mono B0.size)
 have c0:=X1.cell (i:=0) rfl
 have c1:=X1.cell (i:=1) rfl
 have c2:=X1.cell (i:=2) rfl
 go_wp2_with fail
 with_reducible refine (DC.out W1 B01).mono ?_
 rintro e W2 ⟨A,k,rfl,ho,hb⟩
 go_wp2_with fail
 go_ret
 exact ⟨A,k,rfl,own_mono ho B01.size,B01.trans (hb.mono B01.size)⟩
theorem same_any (A0:Option Addr) (n0 k0:Nat) (A1:Option Addr) (n1 k1:Nat) (A2:Option Addr) (n2 k2:Nat) (x:Nrm) (D:Option Addr) (dn dk:Nat) (s:List Int) (E:Option Addr) (en ek:Nat) (t:List Int) (w:World) (hN:NrmAt w A0 n0 A1 n1 A2 n2 x) (hz:NrmSz x) (hL:Laid w) (hD:Ints w D s) (hn:s.length=dn) (hbig:dn≤16384) (hio:∀z ∈ s,iok z) (hE:Ints w E t) (hm:t.length=en) (hbig2:en≤16384) (hio2:∀z ∈ t,iok z) :
  Calls Tryz.prog 25 #[.agg #[.slice A0 n0 k0,.slice A1 n1 k1,.slice A2 n2 k2],.slice D dn dk,.slice E en ek,.bool false] w (RetBool (decide (dtx x false s=dtx x false t)) w):=by
 have B0:Below w.heap.size w (w.alloc (.cells #[.slice A0 n0 k0,.slice A1 n1 k1,.slice A2 n2 k2] 28)):=(by repeat (first | exact Below.refl _ _ | refine Below.alloc ?_ (by (try simp) <;> omega) _))
 have X0:Box (w.alloc (.cells #[.slice A0 n0 k0,.slice A1 n1 k1,.slice A2 n2 k2] 28)) (w.heap.size) 28 [.slice A0 n0 k0,.slice A1 n1 k1,.slice A2 n2 k2]:=Box.new w 28 [.slice A0 n0 k0,.slice A1 n1 k1,.slice A2 n2 k2] rfl
 have W0E:∃W0,(w.alloc (.cells #[.slice A0 n0 k0,.slice A1 n1 k1,.slice A2 n2 k2] 28))=W0:=⟨_,rfl⟩
 have hl1:=dtx_len x false s
 have hl2:=dtx_len x false t
 have l0:=X0.lt
 have SH0:=Lib.hid (fun (W0:World) (X0:Box W0 w.heap.size 28 [.slice A0 n0 k0,.slice A1 n1 k1,.slice A2 n2 k2])=>fun W' (hb':Below W0.heap.size W0 W')=>show W'.cell? ⟨w.heap.size,0,none⟩=some (.slice A0 n0 k0)∧W'.cell? ⟨w.heap.size,1,none⟩=some (.slice A1 n1 k1)∧W'.cell? ⟨w.heap.size,2,none⟩=some (.slice A2 n2 k2)∧Below W0.heap.size W0 W' from ⟨(X0.below hb' X0.lt).cell (i:=0) rfl,(X0.below hb' X0.lt).cell (i:=1) rfl,(X0.below hb' X0.lt).cell (i:=2) rfl,hb'⟩)
 have DC1:=Lib.hid (fun W (hb:Below w.heap.size w W)=>formD_own A0 n0 k0 A1 n1 k1 A2 n2 k2 x D dn dk s W (hN.below hb) hz (hL.below hb) (hD.below hb) hn hbig hio)
 have DC2:=Lib.hid (fun W (hb:Below w.heap.size w W)=>formD_own A0 n0 k0 A1 n1 k1 A2 n2 k2 x E en ek t W (hN.below hb) hz (hL.below hb) (hE.below hb) hm hbig2 hio2)
 unfold RetOwnI at DC1 DC2
 unfold RetBool
 clear hN hz hL hD hE hio hio2
 generalize dtx x false s=ds at *
 generalize dtx x false t=dt at *
 go_enter Tryz.func25,Tryz.ntmps25
 go_upto_region 1 with (fail)
 obtain ⟨W0,hW0⟩:=W0E
 try rw [hW0] at B0 X0 ⊢
 clear hW0
 have SH:=Lib.hid (SH0.out W0 X0)
 clear SH0 l0
 have K1:=Lib.hid (fun W (hS:W.cell? ⟨w.heap.size,0,none⟩=some (.slice A0 n0 k0)∧W.cell? ⟨w.heap.size,1,none⟩=some (.slice A1 n1 k1)∧W.cell? ⟨w.heap.size,2,none⟩=some (.slice A2 n2 k2)∧Below W0.heap.size W0 W)=>(DC1.out W (B0.trans ((hS.2.2.2).mono B0.size))).mono (R':=fun e W'=>∃v,e=.returned v∧(W'.cell? ⟨w.heap.size,0,none⟩=some (.slice A0 n0 k0)∧W'.cell? ⟨w.heap.size,1,none⟩=some (.slice A1 n1 k1)∧W'.cell? ⟨w.heap.size,2,none⟩=some (.slice A2 n2 k2)∧Below W0.heap.size W0 W')∧IsInts ds v W'∧Below W.heap.size W W') (fun e W' ⟨A,k,he,ho,hb⟩=>⟨_,he,SH.out W' ((hS.2.2.2).trans (hb.mono (hS.2.2.2).size)),⟨A,k,rfl,Sl.of_own ho⟩,hb⟩))
 have K2:=Lib.hid (fun W (hS:W.cell? ⟨w.heap.size,0,none⟩=some (.slice A0 n0 k0)∧W.cell? ⟨w.heap.size,1,none⟩=some (.slice A1 n1 k1)∧W.cell? ⟨w.heap.size,2,none⟩=some (.slice A2 n2 k2)∧Below W0.heap.size W0 W)=>(DC2.out W (B0.trans ((hS.2.2.2).mono B0.size))).mono (R':=fun e W'=>∃v,e=.returned v∧(W'.cell? ⟨w.heap.size,0,none⟩=some (.slice A0 n0 k0)∧W'.cell? ⟨w.heap.size,1,none⟩=some (.slice A1 n1 k1)∧W'.cell? ⟨w.heap.size,2,none⟩=some (.slice A2 n2 k2)∧Below W0.heap.size W0 W')∧IsInts dt v W'∧Below W.heap.size W W') (fun e W' ⟨A,k,he,ho,hb⟩=>⟨_,he,SH.out W' ((hS.2.2.2).trans (hb.mono (hS.2.2.2).size)),⟨A,k,rfl,Sl.of_own ho⟩,hb⟩))
 clear X0
 go_wp2_with fail
 refine wp_region_held_drew (S:=fun W'=>W'.cell? ⟨w.heap.size,0,none⟩=some (.slice A0 n0 k0)∧W'.cell? ⟨w.heap.size,1,none⟩=some (.slice A1 n1 k1)∧W'.cell? ⟨w.heap.size,2,none⟩=some (.slice A2 n2 k2)∧Below W0.heap.size W0 W') (by kernel_rfl) (SH.out _ ((Below.refl _ _).drew)) (fun hHeld=>?_)
 refine tK 0 11 ?_
 refine tK 1 12 ?_
 refine tK 2 13 ?_
 refine tK 4 15 ?_
 refine tK 5 16 ?_
 refine tK 6 17 ?_
 refine qE 3 14 (K1.out _ hHeld) ?_
 clear hHeld
 rintro _ W6 hHeld ⟨⟨P1,k1,rfl,hi1⟩,hq1⟩
 refine qE 7 18 (K2.out _ hHeld) ?_
 clear hHeld
 rintro _ W7 hHeld ⟨⟨P2,k2,rfl,hi2⟩,hq2⟩
 replace hi1:=Sl.below hi1 hq2
 clear hq1 hq2
 refine qK 8 19 ((cpEqual_any P1 P2 _ _ k1 k2 ds dt _ hi1 hi2 rfl rfl (by omega) (by omega)).mono (R':=fun e w'=>e=.returned (.bool (decide (ds=dt)))∧_) (fun e w' ⟨he,hq⟩=>⟨he,SH.out w' ((hHeld.2.2.2).trans (hq.below.mono (hHeld.2.2.2).size))⟩)) ?_
 clear hHeld
 intro W7 hHeld
 refine tK 9 8 ?_
 refine wpAnyH_done (by kernel_rfl) ?_ _
 have hfin:=hHeld.2.2.2
 clear hHeld SH K1 K2 hi1 hi2
 have hbn:=B0.trans (hfin.mono B0.size)
 clear hfin
 go_wp2_with fail
 go_ret
 exact ⟨rfl,hbn⟩
theorem keyN_len (o:Opt) (x:Nrm) (c:Col) (t:List Int) (h:t.length≤16384):(keyN (optD o) (elsN x c t) (dtx x false t)).length≤9223372036854775807:=by
 obtain ⟨⟨_,h4⟩,_⟩:=optD_bd o
 have h1:=joinW_len (optD o) (elsN x c t) h4 (wgtL (optD o) (elsN x c t)).length
 rw [List.take_length] at h1
 have h2:=elsN_len x c t
 have h3:=dtx_len x false t
 have h5:=idnL_len (dtx x false t)
 unfold keyN
 rw [List.length_append]
 split
 ·rw [List.length_cons];omega
 ·simp;omega
theorem compare_any (A0:Option Addr) (n0 k0:Nat) (A1:Option Addr) (n1 k1:Nat) (A2:Option Addr) (n2 k2:Nat) (x:Nrm) (C:Option Addr) (n a:Nat) (B:Option Addr) (m b:Nat) (c:Col) (o:Opt) (D:Option Addr) (dn dk:Nat) (s:List Int) (E:Option Addr) (en ek:Nat) (t:List Int) (w:World) (hN:NrmAt w A0 n0 A1 n1 A2 n2 x) (hz:NrmSz x) (hL:Laid w) (hC:ColAt w C n B m c) (hcz:ColSz c) (hD:Ints w D s) (hn:s.length=dn) (hbig:dn≤16384) (hio:∀z ∈ s,iok z) (hE:Ints w E t) (hm:t.length=en) (hbig2:en≤16384) (hio2:∀z ∈ t,iok z) :
  Calls Tryz.prog 8 #[.agg #[.slice A0 n0 k0,.slice A1 n1 k1,.slice A2 n2 k2],.agg #[.slice C n a,.slice B m b,.int .i64 c.base,.int .i64 c.second,.int .i64 c.third],.agg #[.int .i64 o.st,.int .i64 o.va,.bool o.bk,.bool o.idn],.slice D dn dk,.slice E en ek] w (RetInt (cmpL (keyN (optD o) (elsN x c s) (dtx x false s)) (keyN (optD o) (elsN x c t) (dtx x false t))) w):=by
 have B0:Below w.heap.size w (((w.alloc (.cells #[.slice A0 n0 k0,.slice A1 n1 k1,.slice A2 n2 k2] 28)).alloc (.cells #[.slice C n a,.slice B m b,.int .i64 c.base,.int .i64 c.second,.int .i64 c.third] 32)).alloc (.cells #[.int .i64 o.st,.int .i64 o.va,.bool o.bk,.bool o.idn] 34)):=(by repeat (first | exact Below.refl _ _ | refine Below.alloc ?_ (by (try simp) <;> omega) _))
 have X0:Box (((w.alloc (.cells #[.slice A0 n0 k0,.slice A1 n1 k1,.slice A2 n2 k2] 28)).alloc (.cells #[.slice C n a,.slice B m b,.int .i64 c.base,.int .i64 c.second,.int .i64 c.third] 32)).alloc (.cells #[.int .i64 o.st,.int .i64 o.va,.bool o.bk,.bool o.idn] 34)) (w.heap.size) 28 [.slice A0 n0 k0,.slice A1 n1 k1,.slice A2 n2 k2]:=bx_alloc (bx_alloc (Box.new w 28 [.slice A0 n0 k0,.slice A1 n1 k1,.slice A2 n2 k2] rfl) _) _
 have X1:Box (((w.alloc (.cells #[.slice A0 n0 k0,.slice A1 n1 k1,.slice A2 n2 k2] 28)).alloc (.cells #[.slice C n a,.slice B m b,.int .i64 c.base,.int .i64 c.second,.int .i64 c.third] 32)).alloc (.cells #[.int .i64 o.st,.int .i64 o.va,.bool o.bk,.bool o.idn] 34)) (w.heap.size+1) 32 [.slice C n a,.slice B m b,.int .i64 c.base,.int .i64 c.second,.int .i64 c.third]:=bx_alloc (Box.new (w.alloc (.cells #[.slice A0 n0 k0,.slice A1 n1 k1,.slice A2 n2 k2] 28)) 32 [.slice C n a,.slice B m b,.int .i64 c.base,.int .i64 c.second,.int .i64 c.third] (by simp)) _
 have X2:Box (((w.alloc (.cells #[.slice A0 n0 k0,.slice A1 n1 k1,.slice A2 n2 k2] 28)).alloc (.cells #[.slice C n a,.slice B m b,.int .i64 c.base,.int .i64 c.second,.int .i64 c.third] 32)).alloc (.cells #[.int .i64 o.st,.int .i64 o.va,.bool o.bk,.bool o.idn] 34)) (w.heap.size+1+1) 34 [.int .i64 o.st,.int .i64 o.va,.bool o.bk,.bool o.idn]:=Box.new ((w.alloc (.cells #[.slice A0 n0 k0,.slice A1 n1 k1,.slice A2 n2 k2] 28)).alloc (.cells #[.slice C n a,.slice B m b,.int .i64 c.base,.int .i64 c.second,.int .i64 c.third] 32)) 34 [.int .i64 o.st,.int .i64 o.va,.bool o.bk,.bool o.idn] (by simp)
 have W0E:∃W0,(((w.alloc (.cells #[.slice A0 n0 k0,.slice A1 n1 k1,.slice A2 n2 k2] 28)).alloc (.cells #[.slice C n a,.slice B m b,.int .i64 c.base,.int .i64 c.second,.int .i64 c.third] 32)).alloc (.cells #[.int .i64 o.st,.int .i64 o.va,.bool o.bk,.bool o.idn] 34))=W0:=⟨_,rfl⟩
 have hl1:=keyN_len o x c s (by omega)
 have hl2:=keyN_len o x c t (by omega)
 have SH0:=Lib.hid (fun (W0:World) (X0:Box W0 (w.heap.size) 28 [.slice A0 n0 k0,.slice A1 n1 k1,.slice A2 n2 k2]) (X1:Box W0 (w.heap.size+1) 32 [.slice C n a,.slice B m b,.int .i64 c.base,.int .i64 c.second,.int .i64 c.third]) (X2:Box W0 (w.heap.size+1+1) 34 [.int .i64 o.st,.int .i64 o.va,.bool o.bk,.bool o.idn])=>fun W' (hb':Below W0.heap.size W0 W')=>show W'.cell? ⟨w.heap.size,0,none⟩=some (.slice A0 n0 k0)∧W'.cell? ⟨w.heap.size,1,none⟩=some (.slice A1 n1 k1)∧W'.cell? ⟨w.heap.size,2,none⟩=some (.slice A2 n2 k2)∧W'.cell? ⟨w.heap.size+1,0,none⟩=some (.slice C n a)∧W'.cell? ⟨w.heap.size+1,1,none⟩=some (.slice B m b)∧W'.cell? ⟨w.heap.size+1,2,none⟩=some (.int .i64 c.base)∧W'.cell? ⟨w.heap.size+1,3,none⟩=some (.int .i64 c.second)∧W'.cell? ⟨w.heap.size+1,4,none⟩=some (.int .i64 c.third)∧W'.cell? ⟨w.heap.size+1+1,0,none⟩=some (.int .i64 o.st)∧W'.cell? ⟨w.heap.size+1+1,1,none⟩=some (.int .i64 o.va)∧W'.cell? ⟨w.heap.size+1+1,2,none⟩=some (.bool o.bk)∧W'.cell? ⟨w.heap.size+1+1,3,none⟩=some (.bool o.idn)∧Below W0.heap.size W0 W' from ⟨(X0.below hb' X0.lt).cell (i:=0) rfl,(X0.below hb' X0.lt).cell (i:=1) rfl,(X0.below hb' X0.lt).cell (i:=2) rfl,(X1.below hb' X1.lt).cell (i:=0) rfl,(X1.below hb' X1.lt).cell (i:=1) rfl,(X1.below hb' X1.lt).cell (i:=2) rfl,(X1.below hb' X1.lt).cell (i:=3) rfl,(X1.below hb' X1.lt).cell (i:=4) rfl,(X2.below hb' X2.lt).cell (i:=0) rfl,(X2.below hb' X2.lt).cell (i:=1) rfl,(X2.below hb' X2.lt).cell (i:=2) rfl,(X2.below hb' X2.lt).cell (i:=3) rfl,hb'⟩)
 have DC1:=Lib.hid (fun W (hb:Below w.heap.size w W)=>key_own A0 n0 k0 A1 n1 k1 A2 n2 k2 x C n a B m b c o D dn dk s W (hN.below hb) hz (hL.below hb) (hC.below hb) hcz (hD.below hb) hn hbig hio)
 have DC2:=Lib.hid (fun W (hb:Below w.heap.size w W)=>key_own A0 n0 k0 A1 n1 k1 A2 n2 k2 x C n a B m b c o E en ek t W (hN.below hb) hz (hL.below hb) (hC.below hb) hcz (hE.below hb) hm hbig2 hio2)
 unfold RetOwnI at DC1 DC2
 unfold colV at DC1 DC2
 unfold RetInt
 clear hN hz hL hD hE hio hio2 hC hcz
 generalize keyN (optD o) (elsN x c s) (dtx x false s)=ds at *
 generalize keyN (optD o) (elsN x c t) (dtx x false t)=dt at *
 go_enter Tryz.func8,Tryz.ntmps8
 go_upto_region 1 with (fail)
 obtain ⟨W0,hW0⟩:=W0E
 try rw [hW0] at B0 X0 X1 X2 ⊢
 clear hW0
 have SH:=Lib.hid (SH0.out W0 X0 X1 X2)
 clear SH0
 have K1:=Lib.hid (fun W (hS:W.cell? ⟨w.heap.size,0,none⟩=some (.slice A0 n0 k0)∧W.cell? ⟨w.heap.size,1,none⟩=some (.slice A1 n1 k1)∧W.cell? ⟨w.heap.size,2,none⟩=some (.slice A2 n2 k2)∧W.cell? ⟨w.heap.size+1,0,none⟩=some (.slice C n a)∧W.cell? ⟨w.heap.size+1,1,none⟩=some (.slice B m b)∧W.cell? ⟨w.heap.size+1,2,none⟩=some (.int .i64 c.base)∧W.cell? ⟨w.heap.size+1,3,none⟩=some (.int .i64 c.second)∧W.cell? ⟨w.heap.size+1,4,none⟩=some (.int .i64 c.third)∧W.cell? ⟨w.heap.size+1+1,0,none⟩=some (.int .i64 o.st)∧W.cell? ⟨w.heap.size+1+1,1,none⟩=some (.int .i64 o.va)∧W.cell? ⟨w.heap.size+1+1,2,none⟩=some (.bool o.bk)∧W.cell? ⟨w.heap.size+1+1,3,none⟩=some (.bool o.idn)∧Below W0.heap.size W0 W)=>(DC1.out W (B0.trans ((hS.2.2.2.2.2.2.2.2.2.2.2.2).mono B0.size))).mono (R':=fun e W'=>∃v,e=.returned v∧(W'.cell? ⟨w.heap.size,0,none⟩=some (.slice A0 n0 k0)∧W'.cell? ⟨w.heap.size,1,none⟩=some (.slice A1 n1 k1)∧W'.cell? ⟨w.heap.size,2,none⟩=some (.slice A2 n2 k2)∧W'.cell? ⟨w.heap.size+1,0,none⟩=some (.slice C n a)∧W'.cell? ⟨w.heap.size+1,1,none⟩=some (.slice B m b)∧W'.cell? ⟨w.heap.size+1,2,none⟩=some (.int .i64 c.base)∧W'.cell? ⟨w.heap.size+1,3,none⟩=some (.int .i64 c.second)∧W'.cell? ⟨w.heap.size+1,4,none⟩=some (.int .i64 c.third)∧W'.cell? ⟨w.heap.size+1+1,0,none⟩=some (.int .i64 o.st)∧W'.cell? ⟨w.heap.size+1+1,1,none⟩=some (.int .i64 o.va)∧W'.cell? ⟨w.heap.size+1+1,2,none⟩=some (.bool o.bk)∧W'.cell? ⟨w.heap.size+1+1,3,none⟩=some (.bool o.idn)∧Below W0.heap.size W0 W')∧IsInts ds v W'∧Below W.heap.size W W') (fun e W' ⟨A,k,he,ho,hb⟩=>⟨_,he,SH.out W' ((hS.2.2.2.2.2.2.2.2.2.2.2.2).trans (hb.mono (hS.2.2.2.2.2.2.2.2.2.2.2.2).size)),⟨A,k,rfl,Sl.of_own ho⟩,hb⟩))
 have K2:=Lib.hid (fun W (hS:W.cell? ⟨w.heap.size,0,none⟩=some (.slice A0 n0 k0)∧W.cell? ⟨w.heap.size,1,none⟩=some (.slice A1 n1 k1)∧W.cell? ⟨w.heap.size,2,none⟩=some (.slice A2 n2 k2)∧W.cell? ⟨w.heap.size+1,0,none⟩=some (.slice C n a)∧W.cell? ⟨w.heap.size+1,1,none⟩=some (.slice B m b)∧W.cell? ⟨w.heap.size+1,2,none⟩=some (.int .i64 c.base)∧W.cell? ⟨w.heap.size+1,3,none⟩=some (.int .i64 c.second)∧W.cell? ⟨w.heap.size+1,4,none⟩=some (.int .i64 c.third)∧W.cell? ⟨w.heap.size+1+1,0,none⟩=some (.int .i64 o.st)∧W.cell? ⟨w.heap.size+1+1,1,none⟩=some (.int .i64 o.va)∧W.cell? ⟨w.heap.size+1+1,2,none⟩=some (.bool o.bk)∧W.cell? ⟨w.heap.size+1+1,3,none⟩=some (.bool o.idn)∧Below W0.heap.size W0 W)=>(DC2.out W (B0.trans ((hS.2.2.2.2.2.2.2.2.2.2.2.2).mono B0.size))).mono (R':=fun e W'=>∃v,e=.returned v∧(W'.cell? ⟨w.heap.size,0,none⟩=some (.slice A0 n0 k0)∧W'.cell? ⟨w.heap.size,1,none⟩=some (.slice A1 n1 k1)∧W'.cell? ⟨w.heap.size,2,none⟩=some (.slice A2 n2 k2)∧W'.cell? ⟨w.heap.size+1,0,none⟩=some (.slice C n a)∧W'.cell? ⟨w.heap.size+1,1,none⟩=some (.slice B m b)∧W'.cell? ⟨w.heap.size+1,2,none⟩=some (.int .i64 c.base)∧W'.cell? ⟨w.heap.size+1,3,none⟩=some (.int .i64 c.second)∧W'.cell? ⟨w.heap.size+1,4,none⟩=some (.int .i64 c.third)∧W'.cell? ⟨w.heap.size+1+1,0,none⟩=some (.int .i64 o.st)∧W'.cell? ⟨w.heap.size+1+1,1,none⟩=some (.int .i64 o.va)∧W'.cell? ⟨w.heap.size+1+1,2,none⟩=some (.bool o.bk)∧W'.cell? ⟨w.heap.size+1+1,3,none⟩=some (.bool o.idn)∧Below W0.heap.size W0 W')∧IsInts dt v W'∧Below W.heap.size W W') (fun e W' ⟨A,k,he,ho,hb⟩=>⟨_,he,SH.out W' ((hS.2.2.2.2.2.2.2.2.2.2.2.2).trans (hb.mono (hS.2.2.2.2.2.2.2.2.2.2.2.2).size)),⟨A,k,rfl,Sl.of_own ho⟩,hb⟩))
 clear X0 X1 X2
 go_wp2_with fail
 refine wp_region_held_drew (S:=fun W'=>W'.cell? ⟨w.heap.size,0,none⟩=some (.slice A0 n0 k0)∧W'.cell? ⟨w.heap.size,1,none⟩=some (.slice A1 n1 k1)∧W'.cell? ⟨w.heap.size,2,none⟩=some (.slice A2 n2 k2)∧W'.cell? ⟨w.heap.size+1,0,none⟩=some (.slice C n a)∧W'.cell? ⟨w.heap.size+1,1,none⟩=some (.slice B m b)∧W'.cell? ⟨w.heap.size+1,2,none⟩=some (.int .i64 c.base)∧W'.cell? ⟨w.heap.size+1,3,none⟩=some (.int .i64 c.second)∧W'.cell? ⟨w.heap.size+1,4,none⟩=some (.int .i64 c.third)∧W'.cell? ⟨w.heap.size+1+1,0,none⟩=some (.int .i64 o.st)∧W'.cell? ⟨w.heap.size+1+1,1,none⟩=some (.int .i64 o.va)∧W'.cell? ⟨w.heap.size+1+1,2,none⟩=some (.bool o.bk)∧W'.cell? ⟨w.heap.size+1+1,3,none⟩=some (.bool o.idn)∧Below W0.heap.size W0 W') (by kernel_rfl) (SH.out _ ((Below.refl _ _).drew)) (fun hHeld=>?_)
 refine tK 0 11 ?_
 refine tK 1 12 ?_
 refine tK 2 13 ?_
 refine tK 3 14 ?_
 refine tK 5 16 ?_
 refine tK 6 17 ?_
 refine tK 7 18 ?_
 refine tK 8 19 ?_
 refine qE 4 15 (K1.out _ hHeld) ?_
 clear hHeld
 rintro _ W6 hHeld ⟨⟨P1,k1,rfl,hi1⟩,hq1⟩
 refine qE 9 20 (K2.out _ hHeld) ?_
 clear hHeld
 rintro _ W7 hHeld ⟨⟨P2,k2,rfl,hi2⟩,hq2⟩
 replace hi1:=Sl.below hi1 hq2
 clear hq1 hq2
 refine qK 10 21 ((cpCompare_any P1 P2 _ _ k1 k2 ds dt _ hi1 hi2 rfl rfl (by omega) (by omega)).mono (R':=fun e w'=>e=.returned (.int .i64 (cmpL ds dt))∧_) (fun e w' ⟨he,hq⟩=>⟨he,SH.out w' ((hHeld.2.2.2.2.2.2.2.2.2.2.2.2).trans (hq.below.mono (hHeld.2.2.2.2.2.2.2.2.2.2.2.2).size))⟩)) ?_
 clear hHeld
 intro W7 hHeld
 refine tK 11 10 ?_
 refine wpAnyH_done (by kernel_rfl) ?_ _
 have hfin:=hHeld.2.2.2.2.2.2.2.2.2.2.2.2
 clear hHeld SH K1 K2 hi1 hi2
 have hbn:=B0.trans (hfin.mono B0.size)
 clear hfin
 go_wp2_with fail
 go_ret
 exact ⟨rfl,hbn⟩
theorem equal_any (A B:Option Addr) (n m c d:Nat) (xs ys:List Int) (w:World) (hA:Ints w A xs) (hB:Ints w B ys) (hn:xs.length=n) (hm:ys.length=m) (hn':n≤9223372036854775807) (hm':m≤9223372036854775807) :
  Calls Tryz.prog 19 #[.slice A n c,.slice B m d] w (RetBool (decide (xs=ys)) w):=by
 have K:=Lib.hid (Equal_any A B n m c d xs ys w hA hB hn hm hn' hm')
 clear hA hB hn hm
 generalize decide (xs=ys)=r at *
 unfold RetBool
 go_enter Tryz.func19,Tryz.ntmps19
 go_wp2_with fail
 with_reducible refine K.out.mono ?_
 rintro e W1 ⟨rfl,hq⟩
 have hb:=hq.below
 go_wp2_with fail
 go_ret
 exact ⟨rfl,hb⟩
end Go.Proofs.YtijgbonhjcblcaaGreatDoor
namespace Go.Proofs.YtijgbonhjcblcaaGreatDoor
open Go.RowKit Go.Maps Go.WideMaps
def x7:Nrm:=⟨[],[⟨225,[97,769],.empty⟩],[]⟩
def c7:Col:=⟨[],[],0,0,0⟩
def o7:Opt:=⟨3,1,false,false⟩
def ky7 (t:List Int):List Int:=keyN (optD o7) (elsN x7 c7 t) (dtx x7 false t)
theorem a7_err:nErr x7=0:=by rfl
theorem a7_us:usN x7=x7:=if_pos a7_err
theorem a7_d1:dtx x7 false [225]=[97,769]:=by unfold dtx;rw [a7_us];rfl
theorem a7_d2:dtx x7 false [97,769]=[97,769]:=by unfold dtx;rw [a7_us];rfl
theorem a7_e (t:List Int):ky7 t=keyN ⟨3,1,false,false⟩ (Mtc.elems (cls []) (lastE []) (impE ⟨[],[],64448,32,2⟩) (Can.srt (clz []) (flM x7 false t))) []:=by
 unfold ky7 elsN dtx
 rw [a7_us]
 rfl
theorem a7_k1:ky7 [97]=[64448,32865,0,32,0,2]:=by rw [a7_e];rfl
theorem a7_k2:ky7 [98]=[64448,32866,0,32,0,2]:=by rw [a7_e];rfl
theorem x7_sz:NrmSz x7:=by
 refine ⟨by simp [x7],⟨by simp [x7],fun i hi=>?_⟩,by simp [x7]⟩
 have:i=0:=by simp [x7] at hi;omega
 subst this
 simp [x7]
theorem c7_sz:ColSz c7:=⟨fun i hi=>absurd hi (Nat.not_lt_zero _),by simp [c7],by simp [c7]⟩
theorem c7_at (w:World):ColAt w none 0 none 0 c7:=⟨⟨[],rfl,Sl.nil _ _,fun i hi=>absurd hi (Nat.not_lt_zero _)⟩,Sl.nil _ _,rfl,rfl,fun g h=>by cases h⟩
theorem x7_at (w:World):NrmAt ((((w.alloc (.cells #[.int .i64 97,.int .i64 769] 3)).alloc (.cells #[.int .i64 225,.slice (some ⟨w.heap.size,0,none⟩) 2 2,.string ⟨#[]⟩] 63)).alloc (.cells #[.slice none 0 0,.slice (some ⟨w.heap.size+1,0,none⟩) 1 1,.slice none 0 0] 28)).alloc (.cells #[.int .i64 3,.int .i64 1,.bool false,.bool false] 34)) none 0 (some ⟨w.heap.size+1,0,none⟩) 1 none 0 x7:=by
 have s1:Ints (w.alloc (.cells #[.int .i64 97,.int .i64 769] 3)) (some ⟨w.heap.size,0,none⟩) [97,769]:=Ints_new w [97,769] 3 rfl
 have s2:Sl ((w.alloc (.cells #[.int .i64 97,.int .i64 769] 3)).alloc (.cells #[.int .i64 225,.slice (some ⟨w.heap.size,0,none⟩) 2 2,.string ⟨#[]⟩] 63)) (some ⟨w.heap.size+1,0,none⟩) [.int .i64 225,.slice (some ⟨w.heap.size,0,none⟩) 2 2,.string ⟨#[]⟩]:=Sl_new (w.alloc (.cells #[.int .i64 97,.int .i64 769] 3)) _ _ (by simp)
 refine ⟨Sl.nil _ _,⟨[.slice (some ⟨w.heap.size,0,none⟩) 2 2],rfl,(s2.alloc _).alloc _,fun i hi hv=>?_⟩,Sl.nil _ _,rfl,rfl,rfl⟩
 have:i=0:=by simp [x7] at hi;omega
 subst this
 exact ⟨some ⟨w.heap.size,0,none⟩,2,rfl,by simp [x7],((Sl.alloc s1 _).alloc _).alloc _⟩
theorem alive7_any (w:World) (hL:Laid w):Calls Tryz.prog 7 #[] w (RetTrue w):=by
 have B0:Below w.heap.size w ((((w.alloc (.cells #[.int .i64 97,.int .i64 769] 3)).alloc (.cells #[.int .i64 225,.slice (some ⟨w.heap.size,0,none⟩) 2 2,.string ⟨#[]⟩] 63)).alloc (.cells #[.slice none 0 0,.slice (some ⟨w.heap.size+1,0,none⟩) 1 1,.slice none 0 0] 28)).alloc (.cells #[.int .i64 3,.int .i64 1,.bool false,.bool false] 34)):=((((Below.refl _ _).alloc (Nat.le_refl _) _).alloc (by simp) _).alloc (by simp <;> omega) _).alloc (by simp <;> omega) _
 have hX:Box ((((w.alloc (.cells #[.int .i64 97,.int .i64 769] 3)).alloc (.cells #[.int .i64 225,.slice (some ⟨w.heap.size,0,none⟩) 2 2,.string ⟨#[]⟩] 63)).alloc (.cells #[.slice none 0 0,.slice (some ⟨w.heap.size+1,0,none⟩) 1 1,.slice none 0 0] 28)).alloc (.cells #[.int .i64 3,.int .i64 1,.bool false,.bool false] 34)) (w.heap.size+1+1) 28 [.slice none 0 0,.slice (some ⟨w.heap.size+1,0,none⟩) 1 1,.slice none 0 0]:=bx_alloc (Box.new _ _ _ (by simp)) _
 have hY:Box ((((w.alloc (.cells #[.int .i64 97,.int .i64 769] 3)).alloc (.cells #[.int .i64 225,.slice (some ⟨w.heap.size,0,none⟩) 2 2,.string ⟨#[]⟩] 63)).alloc (.cells #[.slice none 0 0,.slice (some ⟨w.heap.size+1,0,none⟩) 1 1,.slice none 0 0] 28)).alloc (.cells #[.int .i64 3,.int .i64 1,.bool false,.bool false] 34)) (w.heap.size+1+1+1) 34 [.int .i64 3,.int .i64 1,.bool false,.bool false]:=Box.new _ _ _ (by simp)
 have hN:=x7_at w
 have W0E:∃W0,((((w.alloc (.cells #[.int .i64 97,.int .i64 769] 3)).alloc (.cells #[.int .i64 225,.slice (some ⟨w.heap.size,0,none⟩) 2 2,.string ⟨#[]⟩] 63)).alloc (.cells #[.slice none 0 0,.slice (some ⟨w.heap.size+1,0,none⟩) 1 1,.slice none 0 0] 28)).alloc (.cells #[.int .i64 3,.int .i64 1,.bool false,.bool false] 34))=W0:=⟨_,rfl⟩
 unfold RetTrue
 go_enter Tryz.func7,Tryz.ntmps7
 go_upto_region 3 with (fail)
 obtain ⟨W0,hW0⟩:=W0E
 rw [hW0] at B0 hX hY hN ⊢
 clear hW0
 have X0:=Lib.hid hX
 have Y0:=Lib.hid hY
 have BB:=Lib.hid (fun W (hb:Below W0.heap.size W0 W)=>B0.trans (hb.mono B0.size))
 have FC:=Lib.hid (fun D n k t W (hb:Below W0.heap.size W0 W) (hA:Ints W D t) (hn:t.length=n) (hz:n≤100) (hok:∀c ∈ t,iok c)=>formD_own none 0 0 (some ⟨w.heap.size+1,0,none⟩) 1 1 none 0 0 x7 D n k t W (hN.below hb) x7_sz (hL.below (BB.out W hb)) hA hn (by omega) hok)
 have SC:=Lib.hid (fun D n k s E m j t W (hb:Below W0.heap.size W0 W) (hA:Ints W D s) (hn:s.length=n) (hz:n≤100) (hok:∀c ∈ s,iok c) (hB:Ints W E t) (hm:t.length=m) (hz2:m≤100) (hok2:∀c ∈ t,iok c)=>same_any none 0 0 (some ⟨w.heap.size+1,0,none⟩) 1 1 none 0 0 x7 D n k s E m j t W (hN.below hb) x7_sz (hL.below (BB.out W hb)) hA hn (by omega) hok hB hm (by omega) hok2)
 have CC:=Lib.hid (fun D n k s E m j t W (hb:Below W0.heap.size W0 W) (hA:Ints W D s) (hn:s.length=n) (hz:n≤100) (hok:∀c ∈ s,iok c) (hB:Ints W E t) (hm:t.length=m) (hz2:m≤100) (hok2:∀c ∈ t,iok c)=>compare_any none 0 0 (some ⟨w.heap.size+1,0,none⟩) 1 1 none 0 0 x7 none 0 0 none 0 0 c7 o7 D n k s E m j t W (hN.below hb) x7_sz (hL.below (BB.out W hb)) (c7_at W) c7_sz hA hn (by omega) hok hB hm (by omega) hok2)
 have KC:=Lib.hid (fun D n k s W (hb:Below W0.heap.size W0 W) (hA:Ints W D s) (hn:s.length=n) (hz:n≤100) (hok:∀c ∈ s,iok c)=>key_own none 0 0 (some ⟨w.heap.size+1,0,none⟩) 1 1 none 0 0 x7 none 0 0 none 0 0 c7 o7 D n k s W (hN.below hb) x7_sz (hL.below (BB.out W hb)) (c7_at W) c7_sz hA hn (by omega) hok)
 have EC:=Lib.hid (fun A B n c d (l:List Int) W (h1:Ints W A l) (h2:Ints W B l) (hn:l.length=n) (hz:n≤100)=>(equal_any A B n n c d l l W h1 h2 hn hn (by omega) (by omega)).mono (R':=fun e w'=>e=.returned (.bool true)∧Below W.heap.size W w') (fun e w' ⟨h3,h4⟩=>⟨by rw [h3];simp,h4⟩))
 clear hN hX hY hL B0
 -- Form
 have n1:Ints (W0.alloc (.cells #[.int .i64 225] 3)) (some ⟨W0.heap.size,0,none⟩) [225]:=Ints_new W0 [225] 3 rfl
 have b1:Below W0.heap.size W0 (W0.alloc (.cells #[.int .i64 225] 3)):=(Below.refl _ _).alloc (Nat.le_refl _) _
 have T1:=FC.out _ 1 1 _ _ b1 n1 rfl (by omega) (by intro c hc;simp at hc;rcases hc with rfl;rfl)
 rw [a7_d1] at T1
 unfold RetOwnI at T1
 have T1':=Lib.hid T1
 clear T1 n1 FC
 have g0:=X0.out.cell (i:=0) rfl
 have g1:=X0.out.cell (i:=1) rfl
 have g2:=X0.out.cell (i:=2) rfl
 go_wp2_with fail
 with_reducible refine T1'.out.mono ?_
 rintro e V1 ⟨A1,k1,rfl,ho1,hb1⟩
 have v1:=b1.trans (hb1.mono b1.size)
 clear T1' hb1 b1 g0 g1 g2
 have z1:Ints (V1.alloc (.cells #[.int .i64 97,.int .i64 769] 3)) (some ⟨V1.heap.size,0,none⟩) [97,769]:=Ints_new V1 [97,769] 3 rfl
 have zb1:Below W0.heap.size W0 (V1.alloc (.cells #[.int .i64 97,.int .i64 769] 3)):=v1.alloc v1.size _
 have E1:=Lib.hid (EC.out A1 _ 2 k1 2 [97,769] _ (Sl.alloc (Sl.of_own ho1) _) z1 rfl (by omega))
 clear z1 ho1
 dsimp only [List.length_cons,List.length_nil,Nat.reduceAdd]
 go_wp2_with fail
 with_reducible refine E1.out.mono ?_
 rintro e V2 ⟨rfl,hb2⟩
 have v2:=zb1.trans (hb2.mono zb1.size)
 clear hb2 zb1 E1 v1
 -- Same
 have n2:Ints ((V2.alloc (.cells #[.int .i64 225] 3)).alloc (.cells #[.int .i64 97,.int .i64 769] 3)) (some ⟨V2.heap.size,0,none⟩) [225]:=Sl.alloc (Ints_new V2 [225] 3 rfl) _
 have n3:Ints ((V2.alloc (.cells #[.int .i64 225] 3)).alloc (.cells #[.int .i64 97,.int .i64 769] 3)) (some ⟨V2.heap.size+1,0,none⟩) [97,769]:=Ints_new _ [97,769] 3 (by simp)
 have b3:Below W0.heap.size W0 ((V2.alloc (.cells #[.int .i64 225] 3)).alloc (.cells #[.int .i64 97,.int .i64 769] 3)):=(v2.alloc v2.size _).alloc (by have:=v2.size;simp;omega) _
 have T2:=SC.out _ 1 1 _ _ 2 2 _ _ b3 n2 rfl (by omega) (by intro c hc;simp at hc;rcases hc with rfl;rfl) n3 rfl (by omega) (by intro c hc;simp at hc;rcases hc with rfl | rfl <;> rfl)
 rw [a7_d1,a7_d2,show decide (([97,769]:List Int)=[97,769])=true from by rfl] at T2
 unfold RetBool at T2
 have T2':=Lib.hid T2
 clear T2 n2 n3 SC
 have g0:=(X0.out.below v2 X0.out.lt).cell (i:=0) rfl
 have g1:=(X0.out.below v2 X0.out.lt).cell (i:=1) rfl
 have g2:=(X0.out.below v2 X0.out.lt).cell (i:=2) rfl
 go_wp2_with fail
 with_reducible refine T2'.out.mono ?_
 rintro e V3 ⟨rfl,hb3⟩
 have v3:=b3.trans (hb3.mono b3.size)
 clear hb3 b3 T2' g0 g1 g2 v2
 -- Compare
 have n2:Ints ((V3.alloc (.cells #[.int .i64 97] 3)).alloc (.cells #[.int .i64 98] 3)) (some ⟨V3.heap.size,0,none⟩) [97]:=Sl.alloc (Ints_new V3 [97] 3 rfl) _
 have n3:Ints ((V3.alloc (.cells #[.int .i64 97] 3)).alloc (.cells #[.int .i64 98] 3)) (some ⟨V3.heap.size+1,0,none⟩) [98]:=Ints_new _ [98] 3 (by simp)
 have b3:Below W0.heap.size W0 ((V3.alloc (.cells #[.int .i64 97] 3)).alloc (.cells #[.int .i64 98] 3)):=(v3.alloc v3.size _).alloc (by have:=v3.size;simp;omega) _
 have T3:=CC.out _ 1 1 _ _ 1 1 _ _ b3 n2 rfl (by omega) (by intro c hc;simp at hc;rcases hc with rfl;rfl) n3 rfl (by omega) (by intro c hc;simp at hc;rcases hc with rfl;rfl)
 rw [show keyN (optD o7) (elsN x7 c7 [97]) (dtx x7 false [97])=_ from a7_k1,show keyN (optD o7) (elsN x7 c7 [98]) (dtx x7 false [98])=_ from a7_k2,show cmpL [64448,32865,0,32,0,2] [64448,32866,0,32,0,2]=-1 from by rfl] at T3
 unfold RetInt at T3
 dsimp only [c7,o7] at T3
 have T3':=Lib.hid T3
 clear T3 n2 n3 CC
 have g0:=(X0.out.below v3 X0.out.lt).cell (i:=0) rfl
 have g1:=(X0.out.below v3 X0.out.lt).cell (i:=1) rfl
 have g2:=(X0.out.below v3 X0.out.lt).cell (i:=2) rfl
 have f0:=(Y0.out.below v3 Y0.out.lt).cell (i:=0) rfl
 have f1:=(Y0.out.below v3 Y0.out.lt).cell (i:=1) rfl
 have f2:=(Y0.out.below v3 Y0.out.lt).cell (i:=2) rfl
 have f3:=(Y0.out.below v3 Y0.out.lt).cell (i:=3) rfl
 go_wp2_with fail
 with_reducible refine T3'.out.mono ?_
 rintro e V4 ⟨rfl,hb4⟩
 have v4:=b3.trans (hb4.mono b3.size)
 clear hb4 b3 T3' g0 g1 g2 f0 f1 f2 f3 v3
 -- Key
 have n2:Ints (V4.alloc (.cells #[.int .i64 97] 3)) (some ⟨V4.heap.size,0,none⟩) [97]:=Ints_new V4 [97] 3 rfl
 have b4:Below W0.heap.size W0 (V4.alloc (.cells #[.int .i64 97] 3)):=v4.alloc v4.size _
 have T4:=KC.out _ 1 1 _ _ b4 n2 rfl (by omega) (by intro c hc;simp at hc;rcases hc with rfl;rfl)
 rw [show keyN (optD o7) (elsN x7 c7 [97]) (dtx x7 false [97])=_ from a7_k1] at T4
 unfold RetOwnI colV at T4
 dsimp only [c7,o7] at T4
 have T4':=Lib.hid T4
 clear T4 n2 KC
 have g0:=(X0.out.below v4 X0.out.lt).cell (i:=0) rfl
 have g1:=(X0.out.below v4 X0.out.lt).cell (i:=1) rfl
 have g2:=(X0.out.below v4 X0.out.lt).cell (i:=2) rfl
 have f0:=(Y0.out.below v4 Y0.out.lt).cell (i:=0) rfl
 have f1:=(Y0.out.below v4 Y0.out.lt).cell (i:=1) rfl
 have f2:=(Y0.out.below v4 Y0.out.lt).cell (i:=2) rfl
 have f3:=(Y0.out.below v4 Y0.out.lt).cell (i:=3) rfl
 go_wp2_with fail
 with_reducible refine T4'.out.mono ?_
 rintro e V5 ⟨A5,k5,rfl,_,hb5⟩
 have v5:=BB.out _ (b4.trans (hb5.mono b4.size))
 clear hb5 b4 T4' g0 g1 g2 f0 f1 f2 f3 v4
 dsimp only [List.length_cons,List.length_nil,Nat.reduceAdd]
 go_wp2_with fail
 go_ret
 exact ⟨rfl,v5⟩
end Go.Proofs.YtijgbonhjcblcaaGreatDoor
namespace Go.Proofs.YtijgbonhjcblcaaGreatDoor
open Go.RowKit
def Cmpd (D:Int→Prop) (b B:Nat) (w0:World) (key:Int→Int):Prop:=
 ∀W,w0.grownBy W (some b)→∀x y:Int,D x→D y→Calls Tryz.prog 57 #[.int .i64 x,.int .i64 y,.pointer (some ⟨B,0,none⟩)] W (RetCmpS (key x < key y) W)
theorem st_mem {key:Int→Int} {d d':List Int} (h:Srt.St key d d') {x:Int} (hx:x ∈ d'):x ∈ d:=by
 have h1:x ∈ d'.filter (fun y=>key y==key x):=List.mem_filter.2 ⟨hx,by simp⟩
 rw [h (key x)] at h1
 exact (List.mem_filter.1 h1).1
theorem insertC_any (b B off n c p q:Nat) (e:TypeId) (key:Int→Int) (d:List Int) (pre post:List Value) (w:World) (hR:Row w b off e pre post d) (hn:d.length=n)
  (hpq:p≤q) (hq:q≤n) (hbig:n≤1099511627776) {D:Int→Prop} (hC:Cmpd D b B w key) (hD:∀x ∈ d,D x) :
  Calls Tryz.prog 139 #[.slice (some ⟨b,off,none⟩) n c,.int .i64 p,.int .i64 q,.func (.func 57) #[] #[.pointer (some ⟨B,0,none⟩)]] w
   (RetRow (fun d'=>Srt.Done key d d' p q) b off e pre post w):=by
 subst hn
 have HC:=Lib.hid hC;have HDm:=Lib.hid hD;clear hC hD
 go_enter Tryz.func139,Tryz.ntmps139
 go_wp2
 go_loopw [8] (fun i wr=>∃(k:Nat) (d1:List Int),p+1≤k∧(k≤q∨k=p+1)∧i=.int .i64 k∧Srt.Same d d1 p q∧Srt.St key d d1∧Srt.SortedOn key d1 p k∧Row wr b off e pre post d1∧w.grownBy wr (some b)) (fun i _=>q - (intOf i).toNat)
 case atStart=>exact ⟨p+1,d,Nat.le_refl _,.inr rfl,by go_num,Srt.Same.refl _ _ _,Srt.St.refl _,Srt.SortedOn.short (Nat.le_refl _),hR,grownR_refl _ _⟩
 case round=>
  obtain ⟨k,d1,hk1,hk2,rfl,hsame,hst,hso,hR1,hg⟩:=hrel
  have HA:=Lib.hid hsame;have HT:=Lib.hid hst;have HO:=Lib.hid hso
  clear hsame hst hso
  by_cases hlt:k < q
  ·obtain ⟨wo,rfl⟩:∃wo:World,wo=wr:=⟨_,rfl⟩
   go_wp2
   go_loopw [9] (fun i wr=>∃(j:Nat) (d2:List Int),p≤j∧j≤k∧i=.int .i64 j∧Srt.Same d d2 p q∧Srt.St key d d2∧Srt.Ins key d2 p k j∧Row wr b off e pre post d2∧w.grownBy wr (some b)) (fun i _=>(intOf i).toNat)
   case atStart=>exact ⟨k,d1,by omega,Nat.le_refl _,rfl,HA.out,HT.out,Srt.Ins.start HO.out,hR1,hg⟩
   case round=>
    obtain ⟨j,d2,hj1,hj2,rfl,hsame,hst,hins,hR2,hg2⟩:=hrel
    have HA2:=Lib.hid hsame;have HT2:=Lib.hid hst;have HI:=Lib.hid hins
    clear hsame hst hins
    by_cases hpj:p < j
    ·have hjn:j < d.length:=by omega
     obtain ⟨x,hx⟩:=get_of_lt (d:=d2) (i:=j - 1) (by rw [HA2.out.1];omega)
     obtain ⟨y,hy⟩:=get_of_lt (d:=d2) (i:=j) (by rw [HA2.out.1];omega)
     have cx:=hR2.cell hx
     have cy:=hR2.cell hy
     have HX:=Lib.hid hx;have HY:=Lib.hid hy
     have C:=Lib.hid (fun W hW=>HC.out W hW y x (HDm.out y (st_mem HT2.out (List.mem_of_getElem? hy))) (HDm.out x (st_mem HT2.out (List.mem_of_getElem? hx))))
     clear hx hy
     have i0:decide (p < j)=true:=by simp;omega
     have i1:IntKind.i64.wrap ((j:Int) - 1)=(j:Int) - 1:=IntWalk.i64_in _ (by omega)
     have i2:(0:Int)≤(j:Int) - 1:=by omega
     have i2':(1:Int)≤(j:Int):=by omega
     have i2'':1≤j:=by omega
     have i3:((j:Int) - 1).toNat=j - 1:=by omega
     have i4:(j:Int) - 1 < (d.length:Int):=by omega
     go_wp2
     refine wp_region_still_tail 14 (by kernel_rfl) (by kernel_rfl) ?_
     simp only [List.take_succ_cons,List.take_zero,List.drop_succ_cons,List.drop_zero]
     change wpStill _ _ wr.drew _ _ _
     repeat still_step
     refine wpStill_nil ?_
     change wpList _ _ _ _ _ wr.drew
     go_wp2_with fail
     refine (C.out _ (grownR_drew hg2)).mono ?_
     rintro e w3 ⟨cc,rfl,hcc,hb3⟩
     have hR3:=(hR2.drew).below hb3
     have hg3:=grownR_below (grownR_drew hg2) hb3
     have cx3:=hR3.cell HX.out
     have cy3:=hR3.cell HY.out
     have fx3:=hR3.frozen (off+(j - 1))
     have fy3:=hR3.frozen (off+j)
     clear hR2 hg2 hb3 cx cy
     by_cases hkey:key y < key x
     ·have hneg:cc < 0:=hcc.2 hkey
      clear hcc
      have hne:¬(j - 1=j):=by omega
      go_wp2
      go_region
      go_wp2
      go_roundw
      case rel=>
       refine ⟨j - 1,Srt.swp d2 (j - 1) j x y,by omega,by omega,by go_num,HA2.out.trans (Srt.swp_same HX.out HY.out (by omega) (by omega) (by omega) (by omega) (by omega)),HT2.out.trans ?_,?_,?_,?_⟩
       ·have:=Srt.swp_done (key:=key) (d:=d2) (j:=j - 1) HX.out (by rw [show j - 1+1=j by omega];exact HY.out) hkey
        rw [show j - 1+1=j by omega] at this;exact this
       ·have:=Srt.Ins.step (key:=key) (d:=d2) (a:=p) (i:=k) (j:=j - 1) (x:=x) (y:=y) (by rw [show j - 1+1=j by omega];exact HI.out) (by omega) (by omega) HX.out (by rw [show j - 1+1=j by omega];exact HY.out) hkey
        rw [show j - 1+1=j by omega] at this;exact this
       ·rw [Srt.swp,List.set_comm _ _ (by omega)]
        exact (Row.set (hR3.set (i:=j) (by rw [HA2.out.1];omega) x) (i:=j - 1) (by rw [List.length_set,HA2.out.1];omega) y).drew
       ·exact grownR_drew (grown_row (grown_row hg3 _ _) _ _)
      case measure=>simp [intOf];omega
     ·have hneg:¬cc < 0:=fun h=>hkey (hcc.1 h)
      clear hcc
      go_wp2
      go_roundw
      case rel=>
       refine ⟨k+1,d2,by omega,.inl (by omega),by go_num,HA2.out,HT2.out,HI.out.stop hj1 hj2 (.inr ?_),hR3,hg3⟩
       rw [Srt.kf_some HX.out,Srt.kf_some HY.out];omega
      case measure=>simp [intOf];omega
    ·have i0:decide (p < j)=false:=by simp;omega
     go_wp2
     go_quiet (fail)
     go_wp2
     go_roundw
     case rel=>exact ⟨k+1,d2,by omega,.inl (by omega),by go_num,HA2.out,HT2.out,HI.out.stop hj1 hj2 (.inl (by omega)),hR2.drewN _,grownR_drewN hg2 _⟩
     case measure=>simp [intOf];omega
  ·go_wp2
   go_end0
   refine ⟨rfl,d1,⟨HA.out,HT.out,?_⟩,hR1,hg⟩
   by_cases hkq:q≤k
   ·exact HO.out.sub (Nat.le_refl _) hkq
   ·omega
theorem stableC_any (b B off n c:Nat) (e:TypeId) (key:Int→Int) (d:List Int) (pre post:List Value) (w:World) (hR:Row w b off e pre post d) (hn:d.length=n) (hbig:n≤19) {D:Int→Prop} (hC:Cmpd D b B w key) (hD:∀x ∈ d,D x) :
  Calls Tryz.prog 109 #[.slice (some ⟨b,off,none⟩) n c,.int .i64 n,.func (.func 57) #[] #[.pointer (some ⟨B,0,none⟩)]] w
   (RetRow (fun d'=>Srt.Done key d d' 0 n) b off e pre post w):=by
 have C:=Lib.hid (insertC_any b B off n c 0 n e key d pre post w hR hn (Nat.zero_le _) (Nat.le_refl _) (by omega) hC hD)
 clear hR hC hD
 go_enter Tryz.func109,Tryz.ntmps109
 go_wp2_with fail
 refine wp_loop_rounds 1 ?_
 rw [rounds_succ]
 go_wp2_with fail
 refine C.out.mono ?_
 rintro e w1 ⟨rfl,d1,hD,hR1,hg1⟩
 have HD:=Lib.hid (And.intro hD (And.intro hR1 hg1))
 clear hD hR1 hg1
 go_wp2_with fail
 refine wp_loop_rounds 1 ?_
 rw [rounds_succ]
 go_wp2_with fail
 go_end0
 exact ⟨rfl,d1,HD.out.1,HD.out.2.1,HD.out.2.2⟩
theorem sortC_any (b B off n c:Nat) (e:TypeId) (key:Int→Int) (d:List Int) (pre post:List Value) (w:World) (hR:Row w b off e pre post d) (hn:d.length=n) (hbig:n≤19) {D:Int→Prop} (hC:Cmpd D b B w key) (hD:∀x ∈ d,D x) :
  Calls Tryz.prog 56 #[.slice (some ⟨b,off,none⟩) n c,.func (.func 57) #[] #[.pointer (some ⟨B,0,none⟩)]] w
   (RetRow (fun d'=>Srt.Done key d d' 0 n) b off e pre post w):=by
 have C:=Lib.hid (stableC_any b B off n c e key d pre post w hR hn hbig hC hD)
 clear hR hC hD
 go_enter Tryz.func56,Tryz.ntmps56
 go_wp2_with fail
 refine C.out.mono ?_
 rintro e w1 ⟨rfl,d1,hD,hR1,hg1⟩
 have HD:=Lib.hid (And.intro hD (And.intro hR1 hg1))
 clear hD hR1 hg1
 go_wp2_with fail
 go_end0
 exact ⟨rfl,d1,HD.out.1,HD.out.2.1,HD.out.2.2⟩
end Go.Proofs.YtijgbonhjcblcaaGreatDoor
namespace Go.Proofs.YtijgbonhjcblcaaGreatDoor.Srl
open Go.RowKit
structure Stp where
 id:Int
 text:List Int
 rm:Bool
 ask:List Int
section
variable (K:List Int→List Int)
def stepL (L:Its) (s:Stp):Its:=if s.rm=true then remL L s.id else putL K L s.id s.text
def runL (L:Its) (l:List Stp):Its:=l.foldl (stepL K) L
end
section
variable {K:List Int→List Int}
theorem stepL_srt {L:Its} (h:Srt K L) (s:Stp):Srt K (stepL K L s):=by
 unfold stepL
 split
 ·exact remL_srt h _
 ·exact putL_srt h _ _
theorem runL_srt:∀(l:List Stp) {L:Its},Srt K L→Srt K (runL K L l)
 | [],_,h=>h
 | s::l,_,h=>runL_srt l (stepL_srt h s)
theorem stepL_mem {L:Its} {s:Stp} {p:Int × List Int}:p ∈ stepL K L s ↔ (s.rm=false∧p=(s.id,s.text))∨(p ∈ L∧p.1≠s.id):=by
 unfold stepL
 cases h:s.rm with
 | true=>
  rw [if_pos rfl,remL_mem]
  simp
 | false=>
  rw [if_neg (by decide),putL_mem]
  simp
def cntL:List Stp→Nat
 | []=>0
 | s::l=>(if (l.all fun s'=>decide (s'.id≠s.id))&&!s.rm then 1 else 0)+cntL l
theorem cntL_cons (s:Stp) (l:List Stp):cntL (s::l)=(if (l.all fun s'=>decide (s'.id≠s.id))&&!s.rm then 1 else 0)+cntL l:=rfl
theorem rem_cnt (L:Its) (id:Int) (q:Int→Bool):(idsL (remL L id)).countP q=(idsL L).countP (fun z=>q z&&decide (z≠id)):=by
 rw [remL_ids,List.countP_filter]
theorem put_cnt (L:Its) (id:Int) (t:List Int) (q:Int→Bool):(idsL (putL K L id t)).countP q=(idsL L).countP (fun z=>q z&&decide (z≠id))+(if q id=true then 1 else 0):=by
 unfold putL
 rw [←rem_cnt L id q]
 conv=>rhs;rw [←List.take_append_drop (atL K L id t) (remL L id)]
 simp only [idsL,List.map_append,List.map_cons,List.countP_append,List.countP_cons]
 omega
theorem runL_cnt:∀(l:List Stp) {L:Its},Srt K L→(runL K L l).length=cntL l+(idsL L).countP (fun z=>l.all fun s=>decide (s.id≠z))
 | [],L,h=>by
  simp [runL,cntL,idsL]
 | s::l,L,h=>by
  have ih:=runL_cnt l (stepL_srt h s)
  show (runL K (stepL K L s) l).length=_
  rw [ih]
  have e1:(idsL L).countP (fun z=>(s::l).all fun s=>decide (s.id≠z))=(idsL L).countP (fun z=>(l.all fun s=>decide (s.id≠z))&&decide (z≠s.id)):=by
   refine List.countP_congr fun z _=>?_
   simp only [List.all_cons,Bool.and_eq_true,decide_eq_true_eq]
   constructor
   ·rintro ⟨a,b⟩;exact ⟨b,fun e=>a e.symm⟩
   ·rintro ⟨a,b⟩;exact ⟨fun e=>b e.symm,a⟩
  rw [e1]
  rw [cntL_cons]
  unfold stepL
  cases hr:s.rm with
  | true=>
   rw [if_pos rfl,rem_cnt L s.id _]
   simp
  | false=>
   rw [if_neg (by decide),put_cnt L s.id s.text _]
   simp only [Bool.not_false,Bool.and_true]
   omega
theorem srt_eq {L M:Its} (hL:Srt K L) (hM:Srt K M) (h:∀p,p ∈ L ↔ p ∈ M):kL K L=kL K M:=
 asc_unique hL.asc hM.asc fun t=>by
  rw [kL_mem,kL_mem]
  exact ⟨fun ⟨p,hp,e⟩=>⟨p,(h p).1 hp,e⟩,fun ⟨p,hp,e⟩=>⟨p,(h p).2 hp,e⟩⟩
theorem kL_ids (L:Its):(kL K L).map Prod.snd=idsL L:=by unfold kL idsL;rw [List.map_map];rfl
theorem runL_puts:∀(l:List Stp) {L:Its} {p:Int × List Int},(∀s ∈ l,s.rm=false)→l.Pairwise (fun a b=>a.id≠b.id)→(∀s ∈ l,s.id ∉ idsL L)→(p ∈ runL K L l ↔ p ∈ L∨∃s ∈ l,p=(s.id,s.text))
 | [],L,p,_,_,_=>by simp [runL]
 | s::l,L,p,h1,h2,h3=>by
  rw [List.pairwise_cons] at h2
  show p ∈ runL K (stepL K L s) l ↔ _
  have h4:=h3 s List.mem_cons_self
  rw [runL_puts l (fun s' hs'=>h1 s' (List.mem_cons_of_mem _ hs')) h2.2 (fun s' hs' hin=>?_),stepL_mem]
  ·constructor
   ·rintro ((⟨_,g⟩ | g) | ⟨s',hs',g⟩)
    ·exact .inr ⟨s,List.mem_cons_self,g⟩
    ·exact .inl g.1
    ·exact .inr ⟨s',List.mem_cons_of_mem _ hs',g⟩
   ·rintro (g | ⟨s',hs',g⟩)
    ·exact .inl (.inr ⟨g,fun e=>h4 (by rw [←e];exact List.mem_map_of_mem (f:=Prod.fst) g)⟩)
    ·rcases List.mem_cons.1 hs' with rfl | hs'
     ·exact .inl (.inl ⟨h1 _ List.mem_cons_self,g⟩)
     ·exact .inr ⟨s',hs',g⟩
  ·obtain ⟨p',hp',e'⟩:=List.mem_map.1 hin
   rcases stepL_mem.1 hp' with ⟨_,g⟩ | g
   ·rw [g] at e'
    exact h2.1 s' hs' e'
   ·exact h3 s' (List.mem_cons_of_mem _ hs') (by rw [←e'];exact List.mem_map_of_mem (f:=Prod.fst) g.1)
theorem turns {l:List Stp} (h1:∀s ∈ l,s.rm=false) (h2:l.Pairwise (fun a b=>a.id≠b.id)):idsL (runL K [] l)=idsL (runL K [] l.reverse)∧(runL K [] l).length=l.length:=by
 have h3:∀s ∈ l,s.id ∉ idsL []:=fun s _=>by simp [idsL]
 have h2':l.reverse.Pairwise (fun a b=>a.id≠b.id):=by
  rw [List.pairwise_reverse]
  exact h2.imp fun h e=>h e.symm
 refine ⟨?_,?_⟩
 ·rw [←kL_ids (K:=K),←kL_ids (K:=K),srt_eq (runL_srt l srt_nil) (runL_srt l.reverse srt_nil) (fun p=>?_)]
  rw [runL_puts l h1 h2 h3,runL_puts l.reverse (fun s hs=>h1 s (List.mem_reverse.1 hs)) h2' (fun s _=>by simp [idsL])]
  simp
 ·rw [runL_cnt l srt_nil]
  have:∀(l:List Stp),(∀s ∈ l,s.rm=false)→l.Pairwise (fun a b=>a.id≠b.id)→cntL l=l.length:=by
   intro l
   induction l with
   | nil=>intro _ _;rfl
   | cons s l ih=>
    intro g1 g2
    rw [List.pairwise_cons] at g2
    rw [cntL_cons,ih (fun s' hs'=>g1 s' (List.mem_cons_of_mem _ hs')) g2.2,g1 s List.mem_cons_self]
    have:(l.all fun s'=>decide (s'.id≠s.id))=true:=by
     rw [List.all_eq_true]
     intro s' hs'
     have:=g2.1 s' hs'
     simpa using fun e=>this e.symm
    rw [this]
    simp
    omega
  rw [this l h1 h2]
  simp [idsL]
end
end Go.Proofs.YtijgbonhjcblcaaGreatDoor.Srl
