/- Texts that are merged into one file: TkKey, TkBytes. -/
import Derived.Test.YtijgbonhjcblcaaGreatDoorK03
import Derived.Test.YtijgbonhjcblcaaGreatDoorK08
import Derived.Test.YtijgbonhjcblcaaGreatDoorK19
import Derived.Test.YtijgbonhjcblcaaGreatDoorK20
import Derived.Test.YtijgbonhjcblcaaGreatDoorK21
import Derived.Test.YtijgbonhjcblcaaGreatDoorK22
import Derived.Laws.BytesArg
set_option maxRecDepth 100000
set_option maxHeartbeats 51200000
namespace Go.Proofs.YtijgbonhjcblcaaGreatDoor
open Go.RowKit Go.Maps Go.WideMaps
theorem pk_len (m:Int):∀(l:List Int) (q:Nat),(Pk.pk m q l).length≤q+l.length
 | [],q=>by
  show (Pk.low m q).length≤_
  unfold Pk.low
  split
  ·simp
  ·simp;omega
 | x::r,q=>by
  unfold Pk.pk
  split
  ·split
   ·have:=pk_len m r 0
    simp;omega
   ·have:=pk_len m r (q+1)
    simp;omega
  ·split
   ·have:=pk_len m r 0
    unfold Pk.low
    split
    ·simp;omega
    ·simp;omega
   ·have:=pk_len m r 0
    unfold Pk.high
    split
    ·simp;omega
    ·simp;omega
theorem clp_id {l:List Int} (h:∀x ∈ l,0≤x∧x≤65535):l.map clp=l:=by
 refine (List.map_congr_left fun x hx=>?_).trans (List.map_id l)
 unfold clp
 rw [if_pos (h x hx)]
 rfl
def secP (c:Col):Int:=if colErr c=0 then c.second else 32
def thrP (c:Col):Int:=if colErr c=0 then c.third else 2
def lvlsP (o:Opt) (m2 m3:Int) (es:List Elt):List (List Int):=(List.range o.st.toNat).map (Pk.lvlP o m2 m3 es)
theorem lvlsP_len (o:Opt) (m2 m3:Int) (es:List Elt):(lvlsP o m2 m3 es).length=(wgtL o es).length:=by simp [lvlsP,wgtL]
theorem lvlsP_at (o:Opt) (m2 m3:Int) (es:List Elt) {i:Nat} (h:i < (wgtL o es).length) (h2:i < (lvlsP o m2 m3 es).length):(lvlsP o m2 m3 es)[i]=if i=1 then Pk.pk m2 0 (wgtL o es)[i] else if i=2 then Pk.pk m3 0 (wgtL o es)[i] else (wgtL o es)[i]:=by
 simp [lvlsP,wgtL,Pk.lvlP]
theorem lvlsP_mem (o:Opt) (m2 m3:Int) (es:List Elt):∀x ∈ lvlsP o m2 m3 es,x.length≤es.length:=by
 intro x hx
 obtain ⟨k,_,rfl⟩:=List.mem_map.1 hx
 have h1:=lvlK_len o es k
 unfold Pk.lvlP
 split
 ·have:=pk_len m2 (lvlK o es k) 0;omega
 ·split
  ·have:=pk_len m3 (lvlK o es k) 0;omega
  ·exact h1
theorem joinP_len (o:Opt) (m2 m3:Int) (es:List Elt) (h:o.st≤4) (i:Nat):(joinL ((lvlsP o m2 m3 es).take i)).length≤4*(es.length+1):=by
 refine Nat.le_trans (joinL_len (M:=es.length) (fun x hx=>lvlsP_mem o m2 m3 es x (List.mem_of_mem_take hx))) (Nat.mul_le_mul_right _ ?_)
 rw [List.length_take,lvlsP_len,wgtL_len]
 omega
theorem pkey_own (A0:Option Addr) (n0 k0:Nat) (A1:Option Addr) (n1 k1:Nat) (A2:Option Addr) (n2 k2:Nat) (x:Nrm) (C:Option Addr) (n a:Nat) (B:Option Addr) (m b:Nat) (c:Col) (o:Opt) (D:Option Addr) (dn dk:Nat) (t:List Int) (w:World) (hN:NrmAt w A0 n0 A1 n1 A2 n2 x) (hz:NrmSz x) (hL:Laid w) (hC:ColAt w C n B m c) (hcz:ColSz c) (hD:Ints w D t) (hn:t.length=dn) (hbig:dn≤1000) (hio:∀z ∈ t,iok z) :
  Calls Tryz.prog 13 #[.agg #[.slice A0 n0 k0,.slice A1 n1 k1,.slice A2 n2 k2],colV C n a B m b c,.agg #[.int .i64 o.st,.int .i64 o.va,.bool o.bk,.bool o.idn],.slice D dn dk] w (RetOwnI (Pk.keyP (optD o) (cmN (secP c)) (cmN (thrP c)) (elsN x c t)) w):=by
 subst hn
 obtain ⟨⟨hst1,hst4⟩,hva1,hva3⟩:=optD_bd o
 have hel:=elsN_len x c t
 have EC:=Lib.hid (fun W (hb:Below w.heap.size w W)=>elems_own A0 n0 k0 A1 n1 k1 A2 n2 k2 x C n a B m b c D t.length dk t W (hN.below hb) hz (hL.below hb) (hC.below hb) hcz (hD.below hb) rfl (by omega) hio)
 have KC:=Lib.hid (fun W (hb:Below w.heap.size w W)=>ckColl_any C n a B m b c W (hC.below hb) hcz)
 have WC0:=Lib.hid (fun E k (W:World) (hE:Elts W E (elsN x c t))=>weights_any E (elsN x c t).length k (elsN x c t) o W hE rfl (by omega))
 have KP:=Lib.hid (fun A N k l cm W (hA:Ints W A l) (hn:l.length=N) (hbig:N≤1048576)=>pack_any A N k l cm W hA hn hbig)
 have JL:=Lib.hid (joinP_len (optD o) (cmN (secP c)) (cmN (thrP c)) (elsN x c t) hst4)
 have WLN:=wgtL_len (optD o) (elsN x c t)
 have WL4:(wgtL (optD o) (elsN x c t)).length≤4:=by omega
 have HK:=Lib.hid (show Pk.keyP (optD o) (cmN (secP c)) (cmN (thrP c)) (elsN x c t)=joinL (lvlsP (optD o) (cmN (secP c)) (cmN (thrP c)) (elsN x c t)) from rfl)
 have PLN:=Lib.hid (lvlsP_len (optD o) (cmN (secP c)) (cmN (thrP c)) (elsN x c t))
 have PLA:=Lib.hid (fun i h h2=>lvlsP_at (optD o) (cmN (secP c)) (cmN (thrP c)) (elsN x c t) (i:=i) h h2)
 have WLM:=Lib.hid (fun y (hy:y ∈ wgtL (optD o) (elsN x c t))=>wgtL_mem hy)
 have WBD:=Lib.hid (fun (y:List Int) (hy:y ∈ wgtL (optD o) (elsN x c t))=>show y.map clp=y from clp_id (by
  unfold wgtL at hy
  obtain ⟨k,_,rfl⟩:=List.mem_map.1 hy
  intro z hz
  have:=Pk.lvl_bd (optD o) (Pk.bd_elsN x c t) k z hz
  omega))
 have HS2:=Lib.hid (show secP c=if colErr c=0 then c.second else 32 from rfl)
 have HS3:=Lib.hid (show thrP c=if colErr c=0 then c.third else 2 from rfl)
 clear hN hz hL hC hcz hD hio WLN
 generalize Pk.keyP (optD o) (cmN (secP c)) (cmN (thrP c)) (elsN x c t)=ky at *
 generalize lvlsP (optD o) (cmN (secP c)) (cmN (thrP c)) (elsN x c t)=pl at *
 generalize wgtL (optD o) (elsN x c t)=wl at *
 generalize elsN x c t=els at *
 generalize secP c=s2 at *
 generalize thrP c=s3 at *
 unfold colV at *
 have B0:Below w.heap.size w (((w.alloc (.cells #[.slice A0 n0 k0,.slice A1 n1 k1,.slice A2 n2 k2] 28)).alloc (.cells #[.slice C n a,.slice B m b,.int .i64 c.base,.int .i64 c.second,.int .i64 c.third] 32)).alloc (.cells #[.int .i64 o.st,.int .i64 o.va,.bool o.bk,.bool o.idn] 34)):=(((Below.refl _ _).alloc (Nat.le_refl _) _).alloc (by simp) _).alloc (by simp <;> omega) _
 have X0:Box (((w.alloc (.cells #[.slice A0 n0 k0,.slice A1 n1 k1,.slice A2 n2 k2] 28)).alloc (.cells #[.slice C n a,.slice B m b,.int .i64 c.base,.int .i64 c.second,.int .i64 c.third] 32)).alloc (.cells #[.int .i64 o.st,.int .i64 o.va,.bool o.bk,.bool o.idn] 34)) w.heap.size 28 [.slice A0 n0 k0,.slice A1 n1 k1,.slice A2 n2 k2]:=bx_alloc (bx_alloc (Box.new w 28 [.slice A0 n0 k0,.slice A1 n1 k1,.slice A2 n2 k2] rfl) _) _
 have X1:Box (((w.alloc (.cells #[.slice A0 n0 k0,.slice A1 n1 k1,.slice A2 n2 k2] 28)).alloc (.cells #[.slice C n a,.slice B m b,.int .i64 c.base,.int .i64 c.second,.int .i64 c.third] 32)).alloc (.cells #[.int .i64 o.st,.int .i64 o.va,.bool o.bk,.bool o.idn] 34)) (w.heap.size+1) 32 [.slice C n a,.slice B m b,.int .i64 c.base,.int .i64 c.second,.int .i64 c.third]:=bx_alloc (Box.new _ 32 [.slice C n a,.slice B m b,.int .i64 c.base,.int .i64 c.second,.int .i64 c.third] (by simp)) _
 have X2:Box (((w.alloc (.cells #[.slice A0 n0 k0,.slice A1 n1 k1,.slice A2 n2 k2] 28)).alloc (.cells #[.slice C n a,.slice B m b,.int .i64 c.base,.int .i64 c.second,.int .i64 c.third] 32)).alloc (.cells #[.int .i64 o.st,.int .i64 o.va,.bool o.bk,.bool o.idn] 34)) (w.heap.size+1+1) 34 [.int .i64 o.st,.int .i64 o.va,.bool o.bk,.bool o.idn]:=Box.new _ _ _ (by simp)
 have W0E:∃W0,(((w.alloc (.cells #[.slice A0 n0 k0,.slice A1 n1 k1,.slice A2 n2 k2] 28)).alloc (.cells #[.slice C n a,.slice B m b,.int .i64 c.base,.int .i64 c.second,.int .i64 c.third] 32)).alloc (.cells #[.int .i64 o.st,.int .i64 o.va,.bool o.bk,.bool o.idn] 34))=W0:=⟨_,rfl⟩
 go_enter Tryz.func13,Tryz.ntmps13
 go_upto_region 1 with (fail)
 obtain ⟨W0,hW0⟩:=W0E
 try rw [hW0] at B0 X0 X1 X2 ⊢
 clear hW0
 have l0:=X0.lt
 have l1:=X1.lt
 have l2:=X2.lt
 have d0:=X1.cell (i:=0) rfl
 have d1:=X1.cell (i:=1) rfl
 have d2:=X1.cell (i:=2) rfl
 have d3:=X1.cell (i:=3) rfl
 have d4:=X1.cell (i:=4) rfl
 go_quiet (fail)
 have B0q:=B0.trans ((below_of_drewN W0 nq).mono B0.size)
 have Y0:=X0.below (below_of_drewN W0 nq) l0
 have Y1:=X1.below (below_of_drewN W0 nq) l1
 have Y2:=X2.below (below_of_drewN W0 nq) l2
 clear B0 X0 X1 X2 l0 l1 l2 d0 d1 d2 d3 d4
 generalize World.drewN W0 nq=Wq at *
 have l0:=Y0.lt
 have l1:=Y1.lt
 have l2:=Y2.lt
 have d0:=Y1.cell (i:=0) rfl
 have d1:=Y1.cell (i:=1) rfl
 have d2:=Y1.cell (i:=2) rfl
 have d3:=Y1.cell (i:=3) rfl
 have d4:=Y1.cell (i:=4) rfl
 go_wp2_with fail
 with_reducible refine (KC.out _ B0q).mono ?_
 rintro e W5 ⟨rfl,hb1⟩
 have B5:=B0q.trans (hb1.mono B0q.size)
 have Z0:=Y0.below hb1 l0
 have Z1:=Y1.below hb1 l1
 have Z2:=Y2.below hb1 l2
 clear d0 d1 d2 d3 d4 l0 l1 l2 Y0 Y1 Y2 B0q hb1 KC
 have l0:=Z0.lt
 have l1:=Z1.lt
 have l2:=Z2.lt
 by_cases he:colErr c=0
 ·have hne:(colErr c != 0)=false:=by simp [he]
  have h2:=HS2.out.trans (if_pos he)
  have h3:=HS3.out.trans (if_pos he)
  have KP2:=Lib.hid (fun A N k l W (hA:Ints W A l) (hn:l.length=N) (hbig:N≤1048576)=>show Calls Tryz.prog 33 #[.slice A N k,.int .i64 c.second] W (RetOwnI (Pk.pk (cmN s2) 0 (l.map clp)) W) from by rw [h2];exact KP.out A N k l c.second W hA hn hbig)
  have KP3:=Lib.hid (fun A N k l W (hA:Ints W A l) (hn:l.length=N) (hbig:N≤1048576)=>show Calls Tryz.prog 33 #[.slice A N k,.int .i64 c.third] W (RetOwnI (Pk.pk (cmN s3) 0 (l.map clp)) W) from by rw [h3];exact KP.out A N k l c.third W hA hn hbig)
  clear HS2 HS3 KP h2 h3
  go_upto_region 5 with (fail)
  have c0:=Z0.cell (i:=0) rfl
  have c1:=Z0.cell (i:=1) rfl
  have c2:=Z0.cell (i:=2) rfl
  have c3:=Z1.cell (i:=0) rfl
  have c4:=Z1.cell (i:=1) rfl
  have c5:=Z1.cell (i:=2) rfl
  have c6:=Z1.cell (i:=3) rfl
  have c7:=Z1.cell (i:=4) rfl
  have c8:=Z2.cell (i:=0) rfl
  have c9:=Z2.cell (i:=1) rfl
  have c10:=Z2.cell (i:=2) rfl
  have c11:=Z2.cell (i:=3) rfl
  have SH:=Lib.hid (fun W' (hb':Below W5.heap.size W5 W')=>show W'.cell? ⟨w.heap.size,0,none⟩=some (.slice A0 n0 k0)∧W'.cell? ⟨w.heap.size,1,none⟩=some (.slice A1 n1 k1)∧W'.cell? ⟨w.heap.size,2,none⟩=some (.slice A2 n2 k2)∧W'.cell? ⟨w.heap.size+1,0,none⟩=some (.slice C n a)∧W'.cell? ⟨w.heap.size+1,1,none⟩=some (.slice B m b)∧W'.cell? ⟨w.heap.size+1,2,none⟩=some (.int .i64 c.base)∧W'.cell? ⟨w.heap.size+1,3,none⟩=some (.int .i64 c.second)∧W'.cell? ⟨w.heap.size+1,4,none⟩=some (.int .i64 c.third)∧W'.cell? ⟨w.heap.size+1+1,0,none⟩=some (.int .i64 o.st)∧W'.cell? ⟨w.heap.size+1+1,1,none⟩=some (.int .i64 o.va)∧W'.cell? ⟨w.heap.size+1+1,2,none⟩=some (.bool o.bk)∧W'.cell? ⟨w.heap.size+1+1,3,none⟩=some (.bool o.idn)∧Below W5.heap.size W5 W' from ⟨(hb'.cell l0).trans c0,(hb'.cell l0).trans c1,(hb'.cell l0).trans c2,(hb'.cell l1).trans c3,(hb'.cell l1).trans c4,(hb'.cell l1).trans c5,(hb'.cell l1).trans c6,(hb'.cell l1).trans c7,(hb'.cell l2).trans c8,(hb'.cell l2).trans c9,(hb'.cell l2).trans c10,(hb'.cell l2).trans c11,hb'⟩)
  have TE:=Lib.hid (fun W (hb':Below W5.heap.size W5 W)=>(EC.out W (B5.trans (hb'.mono B5.size))).mono (R':=fun e W'=>∃v,e=.returned v∧(W'.cell? ⟨w.heap.size,0,none⟩=some (.slice A0 n0 k0)∧W'.cell? ⟨w.heap.size,1,none⟩=some (.slice A1 n1 k1)∧W'.cell? ⟨w.heap.size,2,none⟩=some (.slice A2 n2 k2)∧W'.cell? ⟨w.heap.size+1,0,none⟩=some (.slice C n a)∧W'.cell? ⟨w.heap.size+1,1,none⟩=some (.slice B m b)∧W'.cell? ⟨w.heap.size+1,2,none⟩=some (.int .i64 c.base)∧W'.cell? ⟨w.heap.size+1,3,none⟩=some (.int .i64 c.second)∧W'.cell? ⟨w.heap.size+1,4,none⟩=some (.int .i64 c.third)∧W'.cell? ⟨w.heap.size+1+1,0,none⟩=some (.int .i64 o.st)∧W'.cell? ⟨w.heap.size+1+1,1,none⟩=some (.int .i64 o.va)∧W'.cell? ⟨w.heap.size+1+1,2,none⟩=some (.bool o.bk)∧W'.cell? ⟨w.heap.size+1+1,3,none⟩=some (.bool o.idn)∧Below W5.heap.size W5 W')∧(∃E d,v=.slice E els.length d∧Elts W' E els)) (fun e W' ⟨E,d,he,g1,g2⟩=>⟨_,he,SH.out W' (hb'.trans (g2.mono hb'.size)),E,d,rfl,Sl.of_own g1⟩))
  clear c0 c1 c2 c3 c4 c5 c6 c7 c8 c9 c10 c11 Z0 Z1 Z2
  unfold RetWgt at WC0
  refine wp_region_held_drew (S:=fun W'=>W'.cell? ⟨w.heap.size,0,none⟩=some (.slice A0 n0 k0)∧W'.cell? ⟨w.heap.size,1,none⟩=some (.slice A1 n1 k1)∧W'.cell? ⟨w.heap.size,2,none⟩=some (.slice A2 n2 k2)∧W'.cell? ⟨w.heap.size+1,0,none⟩=some (.slice C n a)∧W'.cell? ⟨w.heap.size+1,1,none⟩=some (.slice B m b)∧W'.cell? ⟨w.heap.size+1,2,none⟩=some (.int .i64 c.base)∧W'.cell? ⟨w.heap.size+1,3,none⟩=some (.int .i64 c.second)∧W'.cell? ⟨w.heap.size+1,4,none⟩=some (.int .i64 c.third)∧W'.cell? ⟨w.heap.size+1+1,0,none⟩=some (.int .i64 o.st)∧W'.cell? ⟨w.heap.size+1+1,1,none⟩=some (.int .i64 o.va)∧W'.cell? ⟨w.heap.size+1+1,2,none⟩=some (.bool o.bk)∧W'.cell? ⟨w.heap.size+1+1,3,none⟩=some (.bool o.idn)∧Below W5.heap.size W5 W') (by kernel_rfl) (SH.out _ ((Below.refl _ _).drew)) (fun hHeld=>?_)
  refine tK 0 21 ?_
  refine tK 1 22 ?_
  refine tK 2 23 ?_
  refine tK 4 25 ?_
  refine tK 7 28 ?_
  refine qE 3 24 (TE.out _ hHeld.2.2.2.2.2.2.2.2.2.2.2.2) ?_
  clear hHeld
  rintro _ W2 hHeld ⟨E2,d2,rfl,hE2⟩
  have TW:=Lib.hid ((WC0.out E2 d2 W2 hE2).mono (R':=fun e W'=>∃v,e=.returned v∧(W'.cell? ⟨w.heap.size,0,none⟩=some (.slice A0 n0 k0)∧W'.cell? ⟨w.heap.size,1,none⟩=some (.slice A1 n1 k1)∧W'.cell? ⟨w.heap.size,2,none⟩=some (.slice A2 n2 k2)∧W'.cell? ⟨w.heap.size+1,0,none⟩=some (.slice C n a)∧W'.cell? ⟨w.heap.size+1,1,none⟩=some (.slice B m b)∧W'.cell? ⟨w.heap.size+1,2,none⟩=some (.int .i64 c.base)∧W'.cell? ⟨w.heap.size+1,3,none⟩=some (.int .i64 c.second)∧W'.cell? ⟨w.heap.size+1,4,none⟩=some (.int .i64 c.third)∧W'.cell? ⟨w.heap.size+1+1,0,none⟩=some (.int .i64 o.st)∧W'.cell? ⟨w.heap.size+1+1,1,none⟩=some (.int .i64 o.va)∧W'.cell? ⟨w.heap.size+1+1,2,none⟩=some (.bool o.bk)∧W'.cell? ⟨w.heap.size+1+1,3,none⟩=some (.bool o.idn)∧Below W5.heap.size W5 W')∧(∃B d,v=.slice B wl.length d∧RowsAt W' B wl)) (fun e W' ⟨B3,d3,he,g1,g2⟩=>⟨_,he,SH.out W' (hHeld.2.2.2.2.2.2.2.2.2.2.2.2.trans (g2.mono hHeld.2.2.2.2.2.2.2.2.2.2.2.2.size)),B3,d3,rfl,g1⟩))
  refine qE 5 26 (TW.out) ?_
  clear hHeld
  rintro _ W3 hHeld ⟨B3,d3,rfl,hrows⟩
  refine tK 6 27 ?_
  refine wpAnyH_done (by kernel_rfl) ?_ _
  have hb3:=hHeld.2.2.2.2.2.2.2.2.2.2.2.2
  have HB3:=Lib.hid (B5.trans (hb3.mono B5.size))
  have HRW:=Lib.hid hrows
  have hs3:=(B5.trans (hb3.mono B5.size)).size
  clear hHeld SH TE TW WC0 EC hrows hE2 hb3 B5
  go_wp2_with fail
  go_loopw [11,28] (fun u v wr=>∃(i:Nat) (K:Option Addr) (k:Nat),i≤wl.length∧v=.int .i64 i∧u=.slice K (joinL (pl.take i)).length k∧wr.ownsRow W3.heap.size 3 1 (.slice K (joinL (pl.take i)).length k) (joinL (pl.take i)).length ((joinL (pl.take i)).map (Value.int .i64))∧Below W3.heap.size W3 wr) (fun _ v _=>wl.length - (intOf v).toNat)
  case atStart=>exact ⟨0,none,0,Nat.zero_le _,rfl,rfl,World.ownsRow_nil _ _ _ _,Below.refl _ _⟩
  obtain ⟨i,K,k,hi,rfl,rfl,ho,hbr⟩:=hrel
  have HO:=Lib.hid ho
  have hrs:=hbr.size
  clear ho
  by_cases hlt:i < wl.length
  ·obtain ⟨bb,oo,C4,c4,rfl,hcell3,hcc,hI⟩:=HRW.out.at hlt
   have hcell:=(hbr.cell (p:=⟨bb,oo+i,none⟩) (World.block_lt_of_cell? W3 _ hcell3)).trans hcell3
   have HI:=Lib.hid hI
   have hpl0:i < pl.length:=by rw [PLN.out];exact hlt
   have HT:=Lib.hid (joinL_take hpl0)
   have PA:=Lib.hid (PLA.out i hlt hpl0)
   have hj:=JL.out i
   have hwl:wl[i].length≤els.length:=WLM.out _ (List.getElem_mem hlt)
   have HB:=Lib.hid (WBD.out _ (List.getElem_mem hlt))
   have HJ:=Lib.hid hbr
   clear hI hbr hcell3 HRW PLA WBD WLM HK JL PLN
   generalize hj1:joinL (pl.take (i+1))=j1 at *
   have HJ1:=Lib.hid hj1
   clear hj1
   generalize joinL (pl.take i)=j0 at *
   generalize pl[i]=prow at *
   clear hpl0
   generalize wl[i]=row at *
   have HI1:=Lib.hid (HI.out.below HJ.out)
   by_cases h0:i=0
   ·have HT0:=Lib.hid (show j1=j0++row from by rw [HT.out,if_pos h0,List.append_nil,PA.out,if_neg (by omega),if_neg (by omega)])
    have hi0:decide ((0:Int) < (i:Int))=false:=by simp;omega
    have hi1:¬0 < i:=by omega
    have hi2:decide (0 < i)=false:=by simpa using hi1
    have hs1:((i:Int)==1)=false:=by simp;omega
    have hs2:((i:Int)==2)=false:=by simp;omega
    clear h0 HT PA KP2 KP3
    go_wp2_with (at_builtin;refine wpList_app _ _ 37 3 (.int .i64 0) 1 8 rfl rfl Tryz.underlying37 info_int rfl (by decide) (by decide) rfl HO.out rfl HI1.out (by simp) (oneCell_ints _) (by omega) hrs ?_;intro K5 k5 w5 hown5 hc5 hb5 hg5 hB5)
    have HO5:=Lib.hid hown5
    have HB5:=Lib.hid (HJ.out.trans hb5)
    clear hown5 hc5 hb5 hg5 hB5
    go_wp2_with fail
    go_roundw
    case rel=>exact ⟨i+1,K5,k5,by omega,by go_num,by rw [HJ1.out,HT0.out];(try simp only [List.length_append]);(try rfl),by rw [HJ1.out,HT0.out];simp only [List.length_append,List.map_append];exact HO5.out,HB5.out⟩
    case measure=>simp [intOf];omega
   ·have HT0:=Lib.hid (show j1=(j0++[0])++prow from by rw [HT.out,if_neg h0])
    clear HT
    have hi0:decide ((0:Int) < (i:Int))=true:=by simp;omega
    have HAL:=Lib.hid (fun (o:Obj)=>show Below wr.heap.size wr (wr.alloc o) from (Below.refl _ _).alloc (Nat.le_refl _) _)
    go_upto_region 10 with (at_builtin;refine wpList_app _ _ 37 3 (.int .i64 0) 1 8 rfl rfl Tryz.underlying37 info_int rfl (by decide) (by decide) rfl (HO.out.alloc _) rfl (Ints_new wr [0] _ rfl) (by simp) (oneCell_ints _) (by omega) (by simp;omega) ?_;intro K3 k3 w3 hown3 hc3 hb3 hg3 hB3)
    have HO3:=Lib.hid hown3
    have hb4:=HJ.out.trans (((HAL.out _).mono hrs).trans hb3)
    have HJ4:=Lib.hid hb4
    have hrs4:=hb4.size
    have HI4:=Lib.hid (HI.out.below hb4)
    clear hown3 hc3 hb3 hg3 hB3 hb4 HAL HJ HI HI1 HO
    by_cases h1:i=1
    ·have hs1:((i:Int)==1)=true:=by simp;omega
     have HP:=Lib.hid (show prow=Pk.pk (cmN s2) 0 row from by rw [PA.out,if_pos h1])
     have hpl:=pk_len (cmN s2) row 0
     rw [←HP.out] at hpl
     have KPi:=KP2.out C4 row.length c4 row w3 HI4.out rfl (by omega)
     rw [HB.out,←HP.out] at KPi
     have KPh:=Lib.hid KPi
     clear KPi KP2 KP3
     unfold RetOwnI at KPh
     go_wp2_with fail
     with_reducible refine KPh.out.mono ?_
     rintro e W6 ⟨D6,d6,rfl,hown6,hb6⟩
     have HO6:=Lib.hid (own_keep HO3.out hb6)
     have HD6:=Lib.hid (Sl.of_own hown6)
     have HJ6:=Lib.hid (HJ4.out.trans (hb6.mono hrs4))
     have hrs6:=HJ6.out.size
     clear hown6 hb6 KPh
     go_wp2_with (at_builtin;refine wpList_app _ _ 37 3 (.int .i64 0) 1 8 rfl rfl Tryz.underlying37 info_int rfl (by decide) (by decide) rfl HO6.out rfl HD6.out (by simp) (oneCell_ints _) (by omega) hrs6 ?_;intro K5 k5 w5 hown5 hc5 hb5 hg5 hB5)
     have HO5:=Lib.hid hown5
     have HB5:=Lib.hid (HJ6.out.trans hb5)
     clear hown5 hc5 hb5 hg5 hB5
     go_wp2_with fail
     go_roundw
     case rel=>exact ⟨i+1,K5,k5,by omega,by go_num,by rw [HJ1.out,HT0.out];(try simp only [List.length_append]);(try rfl),by rw [HJ1.out,HT0.out];simp only [List.length_append,List.map_append];exact HO5.out,HB5.out⟩
     case measure=>simp [intOf];omega
    ·have hs1:((i:Int)==1)=false:=by simp;omega
     by_cases h2:i=2
     ·have hs2:((i:Int)==2)=true:=by simp;omega
      have HP:=Lib.hid (show prow=Pk.pk (cmN s3) 0 row from by rw [PA.out,if_neg h1,if_pos h2])
      have hpl:=pk_len (cmN s3) row 0
      rw [←HP.out] at hpl
      have KPi:=KP3.out C4 row.length c4 row w3 HI4.out rfl (by omega)
      rw [HB.out,←HP.out] at KPi
      have KPh:=Lib.hid KPi
      clear KPi KP2 KP3
      unfold RetOwnI at KPh
      go_wp2_with fail
      with_reducible refine KPh.out.mono ?_
      rintro e W6 ⟨D6,d6,rfl,hown6,hb6⟩
      have HO6:=Lib.hid (own_keep HO3.out hb6)
      have HD6:=Lib.hid (Sl.of_own hown6)
      have HJ6:=Lib.hid (HJ4.out.trans (hb6.mono hrs4))
      have hrs6:=HJ6.out.size
      clear hown6 hb6 KPh
      go_wp2_with (at_builtin;refine wpList_app _ _ 37 3 (.int .i64 0) 1 8 rfl rfl Tryz.underlying37 info_int rfl (by decide) (by decide) rfl HO6.out rfl HD6.out (by simp) (oneCell_ints _) (by omega) hrs6 ?_;intro K5 k5 w5 hown5 hc5 hb5 hg5 hB5)
      have HO5:=Lib.hid hown5
      have HB5:=Lib.hid (HJ6.out.trans hb5)
      clear hown5 hc5 hb5 hg5 hB5
      go_wp2_with fail
      go_roundw
      case rel=>exact ⟨i+1,K5,k5,by omega,by go_num,by rw [HJ1.out,HT0.out];(try simp only [List.length_append]);(try rfl),by rw [HJ1.out,HT0.out];simp only [List.length_append,List.map_append];exact HO5.out,HB5.out⟩
      case measure=>simp [intOf];omega
     ·have hs2:((i:Int)==2)=false:=by simp;omega
      have HP:=Lib.hid (show prow=row from by rw [PA.out,if_neg h1,if_neg h2])
      rw [HP.out] at HT0
      clear PA HP h1 h2 KP2 KP3
      go_wp2_with (at_builtin;refine wpList_app _ _ 37 3 (.int .i64 0) 1 8 rfl rfl Tryz.underlying37 info_int rfl (by decide) (by decide) rfl HO3.out rfl HI4.out (by simp) (oneCell_ints _) (by omega) hrs4 ?_;intro K5 k5 w5 hown5 hc5 hb5 hg5 hB5)
      have HO5:=Lib.hid hown5
      have HB5:=Lib.hid (HJ4.out.trans hb5)
      clear hown5 hc5 hb5 hg5 hB5
      go_wp2_with fail
      go_roundw
      case rel=>exact ⟨i+1,K5,k5,by omega,by go_num,by rw [HJ1.out,HT0.out];(try simp only [List.length_append]);(try rfl),by rw [HJ1.out,HT0.out];simp only [List.length_append,List.map_append];exact HO5.out,HB5.out⟩
      case measure=>simp [intOf];omega
  ·obtain rfl:i=wl.length:=by omega
   have hp:pl.take wl.length=pl:=by rw [←PLN.out];exact List.take_length
   rw [hp] at HO ⊢
   have HKY:=Lib.hid (show joinL pl=ky from HK.out.symm)
   clear hp HK JL
   generalize joinL pl=jf at *
   go_wp2_with fail
   go_ret
   exact ⟨K,k,by rw [←HKY.out];rfl,by rw [←HKY.out];exact own_mono HO.out hs3,HB3.out.trans (hbr.mono hs3)⟩
 ·have hne:(colErr c != 0)=true:=by simp [he]
  have h2:=HS2.out.trans (if_neg he)
  have h3:=HS3.out.trans (if_neg he)
  have KP2:=Lib.hid (fun A N k l W (hA:Ints W A l) (hn:l.length=N) (hbig:N≤1048576)=>show Calls Tryz.prog 33 #[.slice A N k,.int .i64 32] W (RetOwnI (Pk.pk (cmN s2) 0 (l.map clp)) W) from by rw [h2];exact KP.out A N k l 32 W hA hn hbig)
  have KP3:=Lib.hid (fun A N k l W (hA:Ints W A l) (hn:l.length=N) (hbig:N≤1048576)=>show Calls Tryz.prog 33 #[.slice A N k,.int .i64 2] W (RetOwnI (Pk.pk (cmN s3) 0 (l.map clp)) W) from by rw [h3];exact KP.out A N k l 2 W hA hn hbig)
  clear HS2 HS3 KP h2 h3
  go_upto_region 5 with (fail)
  have c0:=Z0.cell (i:=0) rfl
  have c1:=Z0.cell (i:=1) rfl
  have c2:=Z0.cell (i:=2) rfl
  have c3:=Z1.cell (i:=0) rfl
  have c4:=Z1.cell (i:=1) rfl
  have c5:=Z1.cell (i:=2) rfl
  have c6:=Z1.cell (i:=3) rfl
  have c7:=Z1.cell (i:=4) rfl
  have c8:=Z2.cell (i:=0) rfl
  have c9:=Z2.cell (i:=1) rfl
  have c10:=Z2.cell (i:=2) rfl
  have c11:=Z2.cell (i:=3) rfl
  have SH:=Lib.hid (fun W' (hb':Below W5.heap.size W5 W')=>show W'.cell? ⟨w.heap.size,0,none⟩=some (.slice A0 n0 k0)∧W'.cell? ⟨w.heap.size,1,none⟩=some (.slice A1 n1 k1)∧W'.cell? ⟨w.heap.size,2,none⟩=some (.slice A2 n2 k2)∧W'.cell? ⟨w.heap.size+1,0,none⟩=some (.slice C n a)∧W'.cell? ⟨w.heap.size+1,1,none⟩=some (.slice B m b)∧W'.cell? ⟨w.heap.size+1,2,none⟩=some (.int .i64 c.base)∧W'.cell? ⟨w.heap.size+1,3,none⟩=some (.int .i64 c.second)∧W'.cell? ⟨w.heap.size+1,4,none⟩=some (.int .i64 c.third)∧W'.cell? ⟨w.heap.size+1+1,0,none⟩=some (.int .i64 o.st)∧W'.cell? ⟨w.heap.size+1+1,1,none⟩=some (.int .i64 o.va)∧W'.cell? ⟨w.heap.size+1+1,2,none⟩=some (.bool o.bk)∧W'.cell? ⟨w.heap.size+1+1,3,none⟩=some (.bool o.idn)∧Below W5.heap.size W5 W' from ⟨(hb'.cell l0).trans c0,(hb'.cell l0).trans c1,(hb'.cell l0).trans c2,(hb'.cell l1).trans c3,(hb'.cell l1).trans c4,(hb'.cell l1).trans c5,(hb'.cell l1).trans c6,(hb'.cell l1).trans c7,(hb'.cell l2).trans c8,(hb'.cell l2).trans c9,(hb'.cell l2).trans c10,(hb'.cell l2).trans c11,hb'⟩)
  have TE:=Lib.hid (fun W (hb':Below W5.heap.size W5 W)=>(EC.out W (B5.trans (hb'.mono B5.size))).mono (R':=fun e W'=>∃v,e=.returned v∧(W'.cell? ⟨w.heap.size,0,none⟩=some (.slice A0 n0 k0)∧W'.cell? ⟨w.heap.size,1,none⟩=some (.slice A1 n1 k1)∧W'.cell? ⟨w.heap.size,2,none⟩=some (.slice A2 n2 k2)∧W'.cell? ⟨w.heap.size+1,0,none⟩=some (.slice C n a)∧W'.cell? ⟨w.heap.size+1,1,none⟩=some (.slice B m b)∧W'.cell? ⟨w.heap.size+1,2,none⟩=some (.int .i64 c.base)∧W'.cell? ⟨w.heap.size+1,3,none⟩=some (.int .i64 c.second)∧W'.cell? ⟨w.heap.size+1,4,none⟩=some (.int .i64 c.third)∧W'.cell? ⟨w.heap.size+1+1,0,none⟩=some (.int .i64 o.st)∧W'.cell? ⟨w.heap.size+1+1,1,none⟩=some (.int .i64 o.va)∧W'.cell? ⟨w.heap.size+1+1,2,none⟩=some (.bool o.bk)∧W'.cell? ⟨w.heap.size+1+1,3,none⟩=some (.bool o.idn)∧Below W5.heap.size W5 W')∧(∃E d,v=.slice E els.length d∧Elts W' E els)) (fun e W' ⟨E,d,he,g1,g2⟩=>⟨_,he,SH.out W' (hb'.trans (g2.mono hb'.size)),E,d,rfl,Sl.of_own g1⟩))
  clear c0 c1 c2 c3 c4 c5 c6 c7 c8 c9 c10 c11 Z0 Z1 Z2
  unfold RetWgt at WC0
  refine wp_region_held_drew (S:=fun W'=>W'.cell? ⟨w.heap.size,0,none⟩=some (.slice A0 n0 k0)∧W'.cell? ⟨w.heap.size,1,none⟩=some (.slice A1 n1 k1)∧W'.cell? ⟨w.heap.size,2,none⟩=some (.slice A2 n2 k2)∧W'.cell? ⟨w.heap.size+1,0,none⟩=some (.slice C n a)∧W'.cell? ⟨w.heap.size+1,1,none⟩=some (.slice B m b)∧W'.cell? ⟨w.heap.size+1,2,none⟩=some (.int .i64 c.base)∧W'.cell? ⟨w.heap.size+1,3,none⟩=some (.int .i64 c.second)∧W'.cell? ⟨w.heap.size+1,4,none⟩=some (.int .i64 c.third)∧W'.cell? ⟨w.heap.size+1+1,0,none⟩=some (.int .i64 o.st)∧W'.cell? ⟨w.heap.size+1+1,1,none⟩=some (.int .i64 o.va)∧W'.cell? ⟨w.heap.size+1+1,2,none⟩=some (.bool o.bk)∧W'.cell? ⟨w.heap.size+1+1,3,none⟩=some (.bool o.idn)∧Below W5.heap.size W5 W') (by kernel_rfl) (SH.out _ ((Below.refl _ _).drew)) (fun hHeld=>?_)
  refine tK 0 21 ?_
  refine tK 1 22 ?_
  refine tK 2 23 ?_
  refine tK 4 25 ?_
  refine tK 7 28 ?_
  refine qE 3 24 (TE.out _ hHeld.2.2.2.2.2.2.2.2.2.2.2.2) ?_
  clear hHeld
  rintro _ W2 hHeld ⟨E2,d2,rfl,hE2⟩
  have TW:=Lib.hid ((WC0.out E2 d2 W2 hE2).mono (R':=fun e W'=>∃v,e=.returned v∧(W'.cell? ⟨w.heap.size,0,none⟩=some (.slice A0 n0 k0)∧W'.cell? ⟨w.heap.size,1,none⟩=some (.slice A1 n1 k1)∧W'.cell? ⟨w.heap.size,2,none⟩=some (.slice A2 n2 k2)∧W'.cell? ⟨w.heap.size+1,0,none⟩=some (.slice C n a)∧W'.cell? ⟨w.heap.size+1,1,none⟩=some (.slice B m b)∧W'.cell? ⟨w.heap.size+1,2,none⟩=some (.int .i64 c.base)∧W'.cell? ⟨w.heap.size+1,3,none⟩=some (.int .i64 c.second)∧W'.cell? ⟨w.heap.size+1,4,none⟩=some (.int .i64 c.third)∧W'.cell? ⟨w.heap.size+1+1,0,none⟩=some (.int .i64 o.st)∧W'.cell? ⟨w.heap.size+1+1,1,none⟩=some (.int .i64 o.va)∧W'.cell? ⟨w.heap.size+1+1,2,none⟩=some (.bool o.bk)∧W'.cell? ⟨w.heap.size+1+1,3,none⟩=some (.bool o.idn)∧Below W5.heap.size W5 W')∧(∃B d,v=.slice B wl.length d∧RowsAt W' B wl)) (fun e W' ⟨B3,d3,he,g1,g2⟩=>⟨_,he,SH.out W' (hHeld.2.2.2.2.2.2.2.2.2.2.2.2.trans (g2.mono hHeld.2.2.2.2.2.2.2.2.2.2.2.2.size)),B3,d3,rfl,g1⟩))
  refine qE 5 26 (TW.out) ?_
  clear hHeld
  rintro _ W3 hHeld ⟨B3,d3,rfl,hrows⟩
  refine tK 6 27 ?_
  refine wpAnyH_done (by kernel_rfl) ?_ _
  have hb3:=hHeld.2.2.2.2.2.2.2.2.2.2.2.2
  have HB3:=Lib.hid (B5.trans (hb3.mono B5.size))
  have HRW:=Lib.hid hrows
  have hs3:=(B5.trans (hb3.mono B5.size)).size
  clear hHeld SH TE TW WC0 EC hrows hE2 hb3 B5
  go_wp2_with fail
  go_loopw [11,28] (fun u v wr=>∃(i:Nat) (K:Option Addr) (k:Nat),i≤wl.length∧v=.int .i64 i∧u=.slice K (joinL (pl.take i)).length k∧wr.ownsRow W3.heap.size 3 1 (.slice K (joinL (pl.take i)).length k) (joinL (pl.take i)).length ((joinL (pl.take i)).map (Value.int .i64))∧Below W3.heap.size W3 wr) (fun _ v _=>wl.length - (intOf v).toNat)
  case atStart=>exact ⟨0,none,0,Nat.zero_le _,rfl,rfl,World.ownsRow_nil _ _ _ _,Below.refl _ _⟩
  obtain ⟨i,K,k,hi,rfl,rfl,ho,hbr⟩:=hrel
  have HO:=Lib.hid ho
  have hrs:=hbr.size
  clear ho
  by_cases hlt:i < wl.length
  ·obtain ⟨bb,oo,C4,c4,rfl,hcell3,hcc,hI⟩:=HRW.out.at hlt
   have hcell:=(hbr.cell (p:=⟨bb,oo+i,none⟩) (World.block_lt_of_cell? W3 _ hcell3)).trans hcell3
   have HI:=Lib.hid hI
   have hpl0:i < pl.length:=by rw [PLN.out];exact hlt
   have HT:=Lib.hid (joinL_take hpl0)
   have PA:=Lib.hid (PLA.out i hlt hpl0)
   have hj:=JL.out i
   have hwl:wl[i].length≤els.length:=WLM.out _ (List.getElem_mem hlt)
   have HB:=Lib.hid (WBD.out _ (List.getElem_mem hlt))
   have HJ:=Lib.hid hbr
   clear hI hbr hcell3 HRW PLA WBD WLM HK JL PLN
   generalize hj1:joinL (pl.take (i+1))=j1 at *
   have HJ1:=Lib.hid hj1
   clear hj1
   generalize joinL (pl.take i)=j0 at *
   generalize pl[i]=prow at *
   clear hpl0
   generalize wl[i]=row at *
   have HI1:=Lib.hid (HI.out.below HJ.out)
   by_cases h0:i=0
   ·have HT0:=Lib.hid (show j1=j0++row from by rw [HT.out,if_pos h0,List.append_nil,PA.out,if_neg (by omega),if_neg (by omega)])
    have hi0:decide ((0:Int) < (i:Int))=false:=by simp;omega
    have hi1:¬0 < i:=by omega
    have hi2:decide (0 < i)=false:=by simpa using hi1
    have hs1:((i:Int)==1)=false:=by simp;omega
    have hs2:((i:Int)==2)=false:=by simp;omega
    clear h0 HT PA KP2 KP3
    go_wp2_with (at_builtin;refine wpList_app _ _ 37 3 (.int .i64 0) 1 8 rfl rfl Tryz.underlying37 info_int rfl (by decide) (by decide) rfl HO.out rfl HI1.out (by simp) (oneCell_ints _) (by omega) hrs ?_;intro K5 k5 w5 hown5 hc5 hb5 hg5 hB5)
    have HO5:=Lib.hid hown5
    have HB5:=Lib.hid (HJ.out.trans hb5)
    clear hown5 hc5 hb5 hg5 hB5
    go_wp2_with fail
    go_roundw
    case rel=>exact ⟨i+1,K5,k5,by omega,by go_num,by rw [HJ1.out,HT0.out];(try simp only [List.length_append]);(try rfl),by rw [HJ1.out,HT0.out];simp only [List.length_append,List.map_append];exact HO5.out,HB5.out⟩
    case measure=>simp [intOf];omega
   ·have HT0:=Lib.hid (show j1=(j0++[0])++prow from by rw [HT.out,if_neg h0])
    clear HT
    have hi0:decide ((0:Int) < (i:Int))=true:=by simp;omega
    have HAL:=Lib.hid (fun (o:Obj)=>show Below wr.heap.size wr (wr.alloc o) from (Below.refl _ _).alloc (Nat.le_refl _) _)
    go_upto_region 10 with (at_builtin;refine wpList_app _ _ 37 3 (.int .i64 0) 1 8 rfl rfl Tryz.underlying37 info_int rfl (by decide) (by decide) rfl (HO.out.alloc _) rfl (Ints_new wr [0] _ rfl) (by simp) (oneCell_ints _) (by omega) (by simp;omega) ?_;intro K3 k3 w3 hown3 hc3 hb3 hg3 hB3)
    have HO3:=Lib.hid hown3
    have hb4:=HJ.out.trans (((HAL.out _).mono hrs).trans hb3)
    have HJ4:=Lib.hid hb4
    have hrs4:=hb4.size
    have HI4:=Lib.hid (HI.out.below hb4)
    clear hown3 hc3 hb3 hg3 hB3 hb4 HAL HJ HI HI1 HO
    by_cases h1:i=1
    ·have hs1:((i:Int)==1)=true:=by simp;omega
     have HP:=Lib.hid (show prow=Pk.pk (cmN s2) 0 row from by rw [PA.out,if_pos h1])
     have hpl:=pk_len (cmN s2) row 0
     rw [←HP.out] at hpl
     have KPi:=KP2.out C4 row.length c4 row w3 HI4.out rfl (by omega)
     rw [HB.out,←HP.out] at KPi
     have KPh:=Lib.hid KPi
     clear KPi KP2 KP3
     unfold RetOwnI at KPh
     go_wp2_with fail
     with_reducible refine KPh.out.mono ?_
     rintro e W6 ⟨D6,d6,rfl,hown6,hb6⟩
     have HO6:=Lib.hid (own_keep HO3.out hb6)
     have HD6:=Lib.hid (Sl.of_own hown6)
     have HJ6:=Lib.hid (HJ4.out.trans (hb6.mono hrs4))
     have hrs6:=HJ6.out.size
     clear hown6 hb6 KPh
     go_wp2_with (at_builtin;refine wpList_app _ _ 37 3 (.int .i64 0) 1 8 rfl rfl Tryz.underlying37 info_int rfl (by decide) (by decide) rfl HO6.out rfl HD6.out (by simp) (oneCell_ints _) (by omega) hrs6 ?_;intro K5 k5 w5 hown5 hc5 hb5 hg5 hB5)
     have HO5:=Lib.hid hown5
     have HB5:=Lib.hid (HJ6.out.trans hb5)
     clear hown5 hc5 hb5 hg5 hB5
     go_wp2_with fail
     go_roundw
     case rel=>exact ⟨i+1,K5,k5,by omega,by go_num,by rw [HJ1.out,HT0.out];(try simp only [List.length_append]);(try rfl),by rw [HJ1.out,HT0.out];simp only [List.length_append,List.map_append];exact HO5.out,HB5.out⟩
     case measure=>simp [intOf];omega
    ·have hs1:((i:Int)==1)=false:=by simp;omega
     by_cases h2:i=2
     ·have hs2:((i:Int)==2)=true:=by simp;omega
      have HP:=Lib.hid (show prow=Pk.pk (cmN s3) 0 row from by rw [PA.out,if_neg h1,if_pos h2])
      have hpl:=pk_len (cmN s3) row 0
      rw [←HP.out] at hpl
      have KPi:=KP3.out C4 row.length c4 row w3 HI4.out rfl (by omega)
      rw [HB.out,←HP.out] at KPi
      have KPh:=Lib.hid KPi
      clear KPi KP2 KP3
      unfold RetOwnI at KPh
      go_wp2_with fail
      with_reducible refine KPh.out.mono ?_
      rintro e W6 ⟨D6,d6,rfl,hown6,hb6⟩
      have HO6:=Lib.hid (own_keep HO3.out hb6)
      have HD6:=Lib.hid (Sl.of_own hown6)
      have HJ6:=Lib.hid (HJ4.out.trans (hb6.mono hrs4))
      have hrs6:=HJ6.out.size
      clear hown6 hb6 KPh
      go_wp2_with (at_builtin;refine wpList_app _ _ 37 3 (.int .i64 0) 1 8 rfl rfl Tryz.underlying37 info_int rfl (by decide) (by decide) rfl HO6.out rfl HD6.out (by simp) (oneCell_ints _) (by omega) hrs6 ?_;intro K5 k5 w5 hown5 hc5 hb5 hg5 hB5)
      have HO5:=Lib.hid hown5
      have HB5:=Lib.hid (HJ6.out.trans hb5)
      clear hown5 hc5 hb5 hg5 hB5
      go_wp2_with fail
      go_roundw
      case rel=>exact ⟨i+1,K5,k5,by omega,by go_num,by rw [HJ1.out,HT0.out];(try simp only [List.length_append]);(try rfl),by rw [HJ1.out,HT0.out];simp only [List.length_append,List.map_append];exact HO5.out,HB5.out⟩
      case measure=>simp [intOf];omega
     ·have hs2:((i:Int)==2)=false:=by simp;omega
      have HP:=Lib.hid (show prow=row from by rw [PA.out,if_neg h1,if_neg h2])
      rw [HP.out] at HT0
      clear PA HP h1 h2 KP2 KP3
      go_wp2_with (at_builtin;refine wpList_app _ _ 37 3 (.int .i64 0) 1 8 rfl rfl Tryz.underlying37 info_int rfl (by decide) (by decide) rfl HO3.out rfl HI4.out (by simp) (oneCell_ints _) (by omega) hrs4 ?_;intro K5 k5 w5 hown5 hc5 hb5 hg5 hB5)
      have HO5:=Lib.hid hown5
      have HB5:=Lib.hid (HJ4.out.trans hb5)
      clear hown5 hc5 hb5 hg5 hB5
      go_wp2_with fail
      go_roundw
      case rel=>exact ⟨i+1,K5,k5,by omega,by go_num,by rw [HJ1.out,HT0.out];(try simp only [List.length_append]);(try rfl),by rw [HJ1.out,HT0.out];simp only [List.length_append,List.map_append];exact HO5.out,HB5.out⟩
      case measure=>simp [intOf];omega
  ·obtain rfl:i=wl.length:=by omega
   have hp:pl.take wl.length=pl:=by rw [←PLN.out];exact List.take_length
   rw [hp] at HO ⊢
   have HKY:=Lib.hid (show joinL pl=ky from HK.out.symm)
   clear hp HK JL
   generalize joinL pl=jf at *
   go_wp2_with fail
   go_ret
   exact ⟨K,k,by rw [←HKY.out];rfl,by rw [←HKY.out];exact own_mono HO.out hs3,HB3.out.trans (hbr.mono hs3)⟩
end Go.Proofs.YtijgbonhjcblcaaGreatDoor
namespace Go.Proofs.YtijgbonhjcblcaaGreatDoor
open Go.RowKit Go.Maps Go.WideMaps
theorem strL (xs:List Int):(strOfNums xs).toList=xs.map fun n=>UInt8.ofNat n.toNat:=by
 rw [ByteArray.toList_eq];exact strOfNums_data xs
theorem u8_lt {x y:Int} (hx:0≤x∧x < 256) (hy:0≤y∧y < 256):UInt8.ofNat x.toNat < UInt8.ofNat y.toNat ↔ x < y:=by
 rw [UInt8.lt_iff_toNat_lt,UInt8.toNat_ofNat',UInt8.toNat_ofNat',Nat.mod_eq_of_lt (by omega),Nat.mod_eq_of_lt (by omega)]
 omega
theorem u8_eq {x y:Int} (hx:0≤x∧x < 256) (hy:0≤y∧y < 256):UInt8.ofNat x.toNat=UInt8.ofNat y.toNat ↔ x=y:=by
 constructor
 ·intro h
  have:=congrArg UInt8.toNat h
  rw [UInt8.toNat_ofNat',UInt8.toNat_ofNat',Nat.mod_eq_of_lt (by omega),Nat.mod_eq_of_lt (by omega)] at this
  omega
 ·rintro rfl;rfl
theorem less_str:∀xs ys:List Int,(∀x ∈ xs,0≤x∧x < 256)→(∀y ∈ ys,0≤y∧y < 256)→(Op.bytesLess (xs.map fun n=>UInt8.ofNat n.toNat) (ys.map fun n=>UInt8.ofNat n.toNat)=true ↔ cmpL xs ys=-1)
 | [],[],_,_=>by simp [Op.bytesLess,cmpL]
 | x::xs,[],_,_=>by simp [Op.bytesLess,cmpL]
 | [],y::ys,_,_=>by simp [Op.bytesLess,cmpL]
 | x::xs,y::ys,hx,hy=>by
  have hx0:=hx x (by simp)
  have hy0:=hy y (by simp)
  have ih:=less_str xs ys (fun z hz=>hx z (by simp [hz])) (fun z hz=>hy z (by simp [hz]))
  simp only [List.map_cons,Op.bytesLess,Bool.or_eq_true,Bool.and_eq_true,decide_eq_true_eq,beq_iff_eq,u8_lt hx0 hy0,u8_eq hx0 hy0,ih]
  have e:cmpL (x::xs) (y::ys)=if x < y then -1 else if y < x then 1 else cmpL xs ys:=by simp only [cmpL]
  rw [e]
  by_cases h1:x < y
  ·simp [h1]
  ·by_cases h2:y < x
   ·simp [h1,h2];omega
   ·obtain rfl:x=y:=by omega
    simp
theorem cmpS_str {xs ys:List Int} (hx:∀x ∈ xs,0≤x∧x < 256) (hy:∀y ∈ ys,0≤y∧y < 256):cmpS (strOfNums xs) (strOfNums ys)=cmpL xs ys:=by
 unfold cmpS bl
 rw [strL,strL]
 have h1:=less_str xs ys hx hy
 have h2:=less_str ys xs hy hx
 have hn:=Pk.cmp_neg xs ys
 by_cases e1:cmpL xs ys=-1
 ·rw [if_pos (h1.2 e1),e1]
 ·rw [if_neg (fun h=>e1 (h1.1 h))]
  by_cases e2:cmpL ys xs=-1
  ·rw [if_pos (h2.2 e2)];omega
  ·rw [if_neg (fun h=>e2 (h2.1 h))]
   rcases cmpL_vals xs ys with g | g | g <;> omega
theorem sign_any (x y:ByteArray) (w:World):Calls Tryz.prog 11 #[.string x,.string y] w fun e w'=>e=.returned (.int .i64 (cmpS x y))∧w=w':=by
 unfold cmpS
 have E0:=Lib.hid (fun h1 h2=>show (x.toList==y.toList)=true by rw [bl_total (a:=x) (b:=y) h1 h2];simp)
 have E1:=Lib.hid (fun (h2:bl y x=true)=>show (x.toList==y.toList)=false from str_eqF (fun e=>by rw [e,bl_self] at h2;cases h2))
 unfold bl at *
 cases h1:Op.bytesLess x.toList y.toList
 ·cases h2:Op.bytesLess y.toList x.toList
  ·have q:=E0.out h1 h2
   simp only [Bool.false_eq_true,if_false]
   go_enter Tryz.func11,Tryz.ntmps11
   go_wp2
   go_ret
   exact ⟨rfl,rfl⟩
  ·have q:=E1.out h2
   simp only [Bool.false_eq_true,if_false,if_true]
   go_enter Tryz.func11,Tryz.ntmps11
   go_wp2
   go_ret
   exact ⟨rfl,rfl⟩
 ·simp only [if_true]
  go_enter Tryz.func11,Tryz.ntmps11
  go_wp2
  go_ret
  exact ⟨rfl,rfl⟩
theorem info_u8:(Tryz.prog.info? 5).map (fun i=>(i.zero,i.size,i.bytes))=some (some (.int .u8 0),1,1):=by kernel_rfl
theorem oneCell_u8 (zs:List Int):∀u ∈ zs.map (Value.int .u8),u.oneCell'=true:=by
 intro u hu
 obtain ⟨z,_,rfl⟩:=List.mem_map.1 hu
 rfl
theorem run_str {w:World} {base n:Nat} {B:Option Addr} {k:Nat} {xs:List Int} (hn:xs.length=n) (ho:w.ownsRow base 5 1 (.slice B n k) n (xs.map (Value.int .u8))) :
  (convert 67 9 (.slice B n k)).run Tryz.prog w=.ok (.string (strOfNums xs)) w:=by
 rcases ho.2 with ⟨hv,h0⟩ | ⟨g,cap,cur,hv,_⟩
 ·injection hv with e1 e2 e3
  subst e1
  have hx:xs=[]:=List.length_eq_zero_iff.1 (by omega)
  subst hx
  rw [run_convert_bytes_nil w 67 5 Tryz.underlying67 Tryz.underlying5 n k _ Tryz.underlying9]
  rfl
 ·injection hv with e1 e2 e3
  subst e1
  refine run_convert_bytes_arg w 67 5 Tryz.underlying67 Tryz.underlying5 g 0 n k xs hn (fun i hi=>?_) _ Tryz.underlying9
  have hlt:i < xs.length:=by omega
  obtain ⟨b',o',hA,hc⟩:=(Sl.of_own ho).at (k:=i) (by simpa using hlt)
  injection hA with hA
  injection hA with e4 e5 _
  subst e4;subst e5
  rw [hc i (.int .u8 xs[i]) (by simp [hlt])]
  simp [List.getD,List.getElem?_eq_getElem hlt]
theorem bytes_any (A:Option Addr) (n k:Nat) (zs:List Int) (w:World) (hA:Ints w A zs) (hn:zs.length=n) (hz:∀z ∈ zs,0≤z∧z < 4294967296) (hbig:n≤1048576) :
  Calls Tryz.prog 9 #[.slice A n k] w fun e w'=>e=.returned (.string (strOfNums (zs.flatMap Pk.b4)))∧Below w.heap.size w w':=by
 subst hn
 have HA:=Lib.hid hA
 have HZ:=Lib.hid (fun i (hi:i < zs.length)=>hz _ (List.getElem_mem hi))
 have HT:=Lib.hid (fun i (hi:i < zs.length)=>show (zs.take (i+1)).flatMap Pk.b4=(zs.take i).flatMap Pk.b4++Pk.b4 zs[i] from by rw [List.take_succ_eq_append_getElem hi,List.flatMap_append];simp)
 have HL:=Lib.hid (fun i=>show ((zs.take i).flatMap Pk.b4).length=4*(min i zs.length) from by
  rw [List.length_flatMap]
  have:∀l:List Int,(l.map fun a=>(Pk.b4 a).length).sum=4*l.length:=fun l=>by
   induction l with
   | nil=>rfl
   | cons a l ih=>simp only [List.map_cons,List.sum_cons,List.length_cons,ih];simp [Pk.b4];omega
  rw [this,List.length_take])
 have HLF:=Lib.hid (List.take_length (l:=zs))
 clear hA hz
 go_enter Tryz.func9,Tryz.ntmps9
 go_wp2_with fail
 go_loopw [3,9] (fun u v wr=>∃(i:Nat) (B:Option Addr) (c:Nat),i≤zs.length∧v=.int .i64 i∧u=.slice B (4*i) c∧wr.ownsRow w.heap.size 5 1 (.slice B (4*i) c) (4*i) (((zs.take i).flatMap Pk.b4).map (Value.int .u8))∧Below w.heap.size w wr) (fun _ v _=>zs.length - (intOf v).toNat)
 case atStart=>exact ⟨0,none,0,Nat.zero_le _,rfl,rfl,World.ownsRow_nil _ _ _ _,Below.refl _ _⟩
 obtain ⟨i,B,c,hi,rfl,rfl,ho,hbr⟩:=hrel
 have hrs:=hbr.size
 have HO:=Lib.hid ho
 have HBR:=Lib.hid hbr
 by_cases hlt:i < zs.length
 ·obtain ⟨b,p,rfl,hcell⟩:=(HA.out.below hbr).at hlt
  have g0:=hcell i hlt
  have hbl:=World.block_lt_of_cell? wr _ g0
  have hne:¬b=wr.heap.size:=by dsimp only at hbl;omega
  clear ho hbr hcell hbl
  have hzi:=HZ.out i hlt
  have HTi:=Lib.hid (show ((zs.take (i+1)).flatMap Pk.b4).map (Value.int .u8)=((zs.take i).flatMap Pk.b4).map (Value.int .u8)++(Pk.b4 zs[i]).map (Value.int .u8) from by rw [HT.out i hlt,List.map_append])
  generalize zs[i]=z at *
  go_wp2_with (at_builtin;refine wpList_app _ _ 67 5 (.int .u8 0) 1 1 rfl rfl Tryz.underlying67 info_u8 rfl (by decide) (by decide) rfl  (own_keep HO.out (by repeat (first | exact Below.refl _ _ | refine Below.alloc ?_ (by (try simp) <;> omega) _))) rfl (Sl_new _ [.int .u8 (z / 16777216),.int .u8 (z / 65536 % 256),.int .u8 (z / 256 % 256),.int .u8 (z % 256)] _ (by simp)) rfl (oneCell_u8 (Pk.b4 z)) (by omega) (by simp;omega) ?_;intro B9 k9 w9 hown9 hc9 hb9 hg9 hB9)
  have HO9:=Lib.hid hown9
  have HB9:=Lib.hid ((HBR.out.trans (show Below w.heap.size wr _ from (by repeat (first | exact Below.refl _ _ | refine Below.alloc ?_ (by (try simp) <;> omega) _)))).trans hb9)
  clear hown9 hc9 hb9 hg9 hB9
  go_wp2_with fail
  go_roundw
  case rel=>exact ⟨i+1,B9,k9,by omega,by go_num,rfl,by rw [HTi.out];exact HO9.out,HB9.out⟩
  case measure=>simp [intOf];omega
 ·obtain rfl:i=zs.length:=by omega
  rw [HLF.out] at HO
  have hcv:=run_str (by have:=HL.out zs.length;rw [HLF.out] at this;omega) HO.out
  go_wp2_with fail
  go_ret
  exact ⟨rfl,hbr⟩
theorem add_any {base:Nat} (A:Option Addr) (n c:Nat) (xs:List Int) (B:Option Addr) (m d:Nat) (zs:List Int) (w:World) (ho:w.ownsRow base 5 1 (.slice A n c) n (xs.map (Value.int .u8))) (hB:Ints w B zs) (hm:zs.length=m) (hz:∀z ∈ zs,0≤z∧z < 256)
  (hbase:base≤w.heap.size) (hap:∀q,blk B=some q→blk A≠some q) (hbig:n+m≤8388608) :
  Calls Tryz.prog 31 #[.slice A n c,.slice B m d] w fun e w'=>∃A' c',e=.returned (.slice A' (n+m) c')∧w'.ownsRow base 5 1 (.slice A' (n+m) c') (n+m) ((xs++zs).map (Value.int .u8))∧Below base w w':=by
 subst hm
 have HZ:=Lib.hid (fun i (hi:i < zs.length)=>hz _ (List.getElem_mem hi))
 have HT:=Lib.hid (fun i (hi:i < zs.length)=>show (xs++zs.take (i+1)).map (Value.int .u8)=(xs++zs.take i).map (Value.int .u8)++[.int .u8 zs[i]] from by rw [List.take_succ_eq_append_getElem hi,←List.append_assoc,List.map_append];rfl)
 have HLF:=Lib.hid (List.take_length (l:=zs))
 have H0:=Lib.hid (And.intro ho (And.intro hB hap))
 clear ho hB hap hz
 go_enter Tryz.func31,Tryz.ntmps31
 go_wp2_with fail
 go_loopw [0,9] (fun u v wr=>∃(i:Nat) (A':Option Addr) (c':Nat),i≤zs.length∧v=.int .i64 i∧u=.slice A' (n+i) c'∧wr.ownsRow base 5 1 (.slice A' (n+i) c') (n+i) ((xs++zs.take i).map (Value.int .u8))∧Ints wr B zs∧(∀q,blk B=some q→blk A'≠some q)∧Below base w wr) (fun _ v _=>zs.length - (intOf v).toNat)
 case atStart=>exact ⟨0,A,c,Nat.zero_le _,rfl,rfl,by simpa using H0.out.1,H0.out.2.1,H0.out.2.2,⟨rfl,rfl,rfl,Nat.le_refl _,fun _ _=>rfl⟩⟩
 obtain ⟨i,A',c',hi,rfl,rfl,ho,hB,hap,hbr⟩:=hrel
 have hrs:=hbr.size
 have HO:=Lib.hid ho
 have HBR:=Lib.hid hbr
 have HBZ:=Lib.hid hB
 have HAP:=Lib.hid hap
 by_cases hlt:i < zs.length
 ·obtain ⟨b,p,rfl,hcell⟩:=hB.at hlt
  have g0:=hcell i hlt
  have hbl:=World.block_lt_of_cell? wr _ g0
  have hne:¬b=wr.heap.size:=by dsimp only at hbl;omega
  clear ho hbr hcell hB hap
  have hzi:=HZ.out i hlt
  have HTi:=Lib.hid (HT.out i hlt)
  generalize zs[i]=z at *
  go_wp2_with (at_builtin;refine wpList_app _ _ 67 5 (.int .u8 0) 1 1 rfl rfl Tryz.underlying67 info_u8 rfl (by decide) (by decide) rfl  (own_keep HO.out (by repeat (first | exact Below.refl _ _ | refine Below.alloc ?_ (by (try simp) <;> omega) _))) rfl (Sl_new _ [.int .u8 z] _ (by simp)) rfl (oneCell_u8 [z]) (by omega) (by simp;omega) ?_;intro B9 k9 w9 hown9 hc9 hb9 hg9 hB9)
  have HO9:=Lib.hid hown9
  have HB9:=Lib.hid ((HBR.out.trans (show Below base wr _ from (by repeat (first | exact Below.refl _ _ | refine Below.alloc ?_ (by (try simp) <;> omega) _)))).trans hb9)
  have HZ9:=Lib.hid (show Ints w9 (some ⟨b,p,none⟩) zs from (Chg.of_grown (S:=fun q=>blk A'=some q) hg9 (fun q hq=>by rw [ownBlock_blk] at hq;exact hq)).sl (Sl.alloc HBZ.out _) (fun _ q hq=>HAP.out q hq))
  have HA9:=Lib.hid (show ∀q,blk (some ⟨b,p,none⟩)=some q→blk B9≠some q from fun q hq=>by
   rcases hB9 with rfl | rfl
   ·exact HAP.out q hq
   ·intro e
    injection hq with hq
    injection e with e
    dsimp only at hq e hbl
    simp at e
    omega)
  clear hown9 hc9 hb9 hg9 hB9
  go_wp2_with fail
  go_roundw
  case rel=>exact ⟨i+1,B9,k9,by omega,by go_num,rfl,by rw [HTi.out];exact HO9.out,HZ9.out,HA9.out,HB9.out⟩
  case measure=>simp [intOf];omega
 ·obtain rfl:i=zs.length:=by omega
  rw [HLF.out] at HO
  go_wp2_with fail
  go_ret
  exact ⟨A',c',rfl,HO.out,hbr⟩
theorem vb_len (x:Int):(Pk.vb x).length≤4:=by
 unfold Pk.vb
 split
 ·simp
 ·split <;> simp
theorem vbs_len:∀l:List Int,(l.flatMap Pk.vb).length≤4*l.length
 | []=>by simp
 | a::l=>by
  have:=vbs_len l
  have:=vb_len a
  rw [List.flatMap_cons,List.length_append,List.length_cons]
  omega
theorem varint_any (A:Option Addr) (n k:Nat) (zs:List Int) (w:World) (hA:Ints w A zs) (hn:zs.length=n) (hz:∀z ∈ zs,0≤z∧z < 16777216) (hbig:n≤1048576) :
  Calls Tryz.prog 12 #[.slice A n k] w fun e w'=>e=.returned (.string (strOfNums (zs.flatMap Pk.vb)))∧Below w.heap.size w w':=by
 subst hn
 have HA:=Lib.hid hA
 have HZ:=Lib.hid (fun i (hi:i < zs.length)=>hz _ (List.getElem_mem hi))
 have HT:=Lib.hid (fun i (hi:i < zs.length)=>show (zs.take (i+1)).flatMap Pk.vb=(zs.take i).flatMap Pk.vb++Pk.vb zs[i] from by rw [List.take_succ_eq_append_getElem hi,List.flatMap_append];simp)
 have HL:=Lib.hid (fun i=>show ((zs.take i).flatMap Pk.vb).length≤4*zs.length from Nat.le_trans (vbs_len _) (by rw [List.length_take];omega))
 have HLF:=Lib.hid (List.take_length (l:=zs))
 have KA:=Lib.hid (fun A n c xs B m d zs W h1 h2 h3 h4 h5 h6 h7=>add_any (base:=w.heap.size) A n c xs B m d zs W h1 h2 h3 h4 h5 h6 h7)
 clear hA hz
 go_enter Tryz.func12,Tryz.ntmps12
 go_wp2_with fail
 go_loopw [3,8] (fun u v wr=>∃(i L:Nat) (B:Option Addr) (c:Nat),i≤zs.length∧v=.int .i64 i∧((zs.take i).flatMap Pk.vb).length=L∧u=.slice B L c∧wr.ownsRow w.heap.size 5 1 (.slice B L c) L (((zs.take i).flatMap Pk.vb).map (Value.int .u8))∧Below w.heap.size w wr) (fun _ v _=>zs.length - (intOf v).toNat)
 case atStart=>exact ⟨0,0,none,0,Nat.zero_le _,rfl,rfl,rfl,World.ownsRow_nil _ _ _ _,Below.refl _ _⟩
 obtain ⟨i,L,B,c,hi,rfl,hL,rfl,ho,hbr⟩:=hrel
 have hrs:=hbr.size
 have HO:=Lib.hid ho
 have HBR:=Lib.hid hbr
 by_cases hlt:i < zs.length
 ·obtain ⟨b,p,rfl,hcell⟩:=(HA.out.below hbr).at hlt
  have g0:=hcell i hlt
  clear ho hbr hcell
  have hzi:=HZ.out i hlt
  have hLb:=HL.out i
  rw [hL] at hLb
  have HTi:=Lib.hid (HT.out i hlt)
  have HAPn:=Lib.hid (fun q (hq:blk (some ⟨wr.heap.size,0,none⟩:Option Addr)=some q)=>show blk B≠some q from fun e=>by
   have h1:=(own_blk HO.out e).2
   have h2:wr.heap.size=q:=Option.some.inj (show some wr.heap.size=some q from hq)
   omega)
  generalize (zs.take i).flatMap Pk.vb=ys at *
  generalize zs[i]=z at *
  have d0:decide (z < 0)=false:=decide_eq_false (by omega)
  have d1:decide (16777216≤z)=false:=decide_eq_false (by omega)
  by_cases h1:z < 64
  ·have d2:decide (z < 64)=true:=decide_eq_true h1
   have EV:=Lib.hid (Pk.vb_1 h1)
   go_wp2_with fail
   have NI:=Lib.hid (show Ints (wr.alloc (.cells #[.int .i64 z] 3)) (some ⟨wr.heap.size,0,none⟩) [z] from Ints_new wr [z] 3 rfl)
   have KAi:=Lib.hid (KA.out B L c ys (some ⟨wr.heap.size,0,none⟩) 1 1 [z] (wr.alloc (.cells #[.int .i64 z] 3)) (own_keep HO.out (by repeat (first | exact Below.refl _ _ | refine Below.alloc ?_ (by (try simp) <;> omega) _))) NI.out rfl (by intro y hy;simp at hy;omega) (by simp;omega) HAPn.out (by omega))
   with_reducible refine KAi.out.mono ?_
   rintro e w9 ⟨B9,k9,rfl,hown9,hb9⟩
   have HO9:=Lib.hid hown9
   have HB9:=Lib.hid ((HBR.out.trans (show Below w.heap.size wr _ from (by repeat (first | exact Below.refl _ _ | refine Below.alloc ?_ (by (try simp) <;> omega) _)))).trans hb9)
   clear hown9 hb9
   go_wp2_with fail
   go_roundw
   case rel=>exact ⟨i+1,L+1,B9,k9,by omega,by go_num,by rw [HTi.out,EV.out,List.length_append,hL];rfl,rfl,by rw [HTi.out,EV.out];exact HO9.out,HB9.out⟩
   case measure=>simp [intOf];omega
  have d2:decide (z < 64)=false:=decide_eq_false h1
  by_cases h2:z < 16384
  ·have d3:decide (z < 16384)=true:=decide_eq_true h2
   have EV:=Lib.hid (Pk.vb_2 h1 h2)
   go_wp2_with fail
   have NI:=Lib.hid (show Ints (wr.alloc (.cells #[.int .i64 (64+z / 256),.int .i64 (z % 256)] 3)) (some ⟨wr.heap.size,0,none⟩) [64+z / 256,z % 256] from Ints_new wr [64+z / 256,z % 256] 3 rfl)
   have KAi:=Lib.hid (KA.out B L c ys (some ⟨wr.heap.size,0,none⟩) 2 2 [64+z / 256,z % 256] (wr.alloc (.cells #[.int .i64 (64+z / 256),.int .i64 (z % 256)] 3)) (own_keep HO.out (by repeat (first | exact Below.refl _ _ | refine Below.alloc ?_ (by (try simp) <;> omega) _))) NI.out rfl (by intro y hy;simp at hy;omega) (by simp;omega) HAPn.out (by omega))
   with_reducible refine KAi.out.mono ?_
   rintro e w9 ⟨B9,k9,rfl,hown9,hb9⟩
   have HO9:=Lib.hid hown9
   have HB9:=Lib.hid ((HBR.out.trans (show Below w.heap.size wr _ from (by repeat (first | exact Below.refl _ _ | refine Below.alloc ?_ (by (try simp) <;> omega) _)))).trans hb9)
   clear hown9 hb9
   go_wp2_with fail
   go_roundw
   case rel=>exact ⟨i+1,L+2,B9,k9,by omega,by go_num,by rw [HTi.out,EV.out,List.length_append,hL];rfl,rfl,by rw [HTi.out,EV.out];exact HO9.out,HB9.out⟩
   case measure=>simp [intOf];omega
  have d3:decide (z < 16384)=false:=decide_eq_false h2
  have EV:=Lib.hid (Pk.vb_4 h1 h2)
  go_wp2_with fail
  have NI:=Lib.hid (show Ints (wr.alloc (.cells #[.int .i64 128,.int .i64 (z / 65536),.int .i64 (z / 256 % 256),.int .i64 (z % 256)] 3)) (some ⟨wr.heap.size,0,none⟩) [128,z / 65536,z / 256 % 256,z % 256] from Ints_new wr [128,z / 65536,z / 256 % 256,z % 256] 3 rfl)
  have KAi:=Lib.hid (KA.out B L c ys (some ⟨wr.heap.size,0,none⟩) 4 4 [128,z / 65536,z / 256 % 256,z % 256] (wr.alloc (.cells #[.int .i64 128,.int .i64 (z / 65536),.int .i64 (z / 256 % 256),.int .i64 (z % 256)] 3)) (own_keep HO.out (by repeat (first | exact Below.refl _ _ | refine Below.alloc ?_ (by (try simp) <;> omega) _))) NI.out rfl (by intro y hy;simp at hy;omega) (by simp;omega) HAPn.out (by omega))
  with_reducible refine KAi.out.mono ?_
  rintro e w9 ⟨B9,k9,rfl,hown9,hb9⟩
  have HO9:=Lib.hid hown9
  have HB9:=Lib.hid ((HBR.out.trans (show Below w.heap.size wr _ from (by repeat (first | exact Below.refl _ _ | refine Below.alloc ?_ (by (try simp) <;> omega) _)))).trans hb9)
  clear hown9 hb9
  go_wp2_with fail
  go_roundw
  case rel=>exact ⟨i+1,L+4,B9,k9,by omega,by go_num,by rw [HTi.out,EV.out,List.length_append,hL];rfl,rfl,by rw [HTi.out,EV.out];exact HO9.out,HB9.out⟩
  case measure=>simp [intOf];omega
 ·obtain rfl:i=zs.length:=by omega
  rw [HLF.out] at HO hL
  have hcv:=run_str hL HO.out
  go_wp2_with fail
  go_ret
  exact ⟨rfl,hbr⟩
end Go.Proofs.YtijgbonhjcblcaaGreatDoor
