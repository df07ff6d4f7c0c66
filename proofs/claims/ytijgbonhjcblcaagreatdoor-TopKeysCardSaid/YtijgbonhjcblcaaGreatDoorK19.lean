/- Texts that are merged into one file: SkKey, PackPlain, ListPlain, SlPlain, SlClone, SlRows. -/
import Derived.Test.YtijgbonhjcblcaaGreatDoorK01
import Derived.Test.YtijgbonhjcblcaaGreatDoorK04
import Derived.Test.YtijgbonhjcblcaaGreatDoorK08
import Derived.Test.YtijgbonhjcblcaaGreatDoorK14
import Derived.Test.YtijgbonhjcblcaaGreatDoorK15
import Derived.Test.YtijgbonhjcblcaaGreatDoorK18
set_option maxRecDepth 100000
set_option maxHeartbeats 51200000
namespace Go.Proofs.YtijgbonhjcblcaaGreatDoor
open Go.RowKit Go.Maps Go.WideMaps
theorem joinL_len {M:Nat}:∀{l:List (List Int)},(∀x ∈ l,x.length≤M)→(joinL l).length≤l.length*(M+1)
 | [],_=>by simp [joinL]
 | [x],h=>by have:=h x (by simp);simp [joinL];omega
 | x::y::l,h=>by
  have h1:=h x (by simp)
  have h2:=joinL_len (M:=M) (l:=y::l) (fun z hz=>h z (by simp [hz]))
  have e:(joinL (x::y::l)).length=x.length+((joinL (y::l)).length+1):=by
   show (x++0::joinL (y::l)).length=_
   rw [List.length_append,List.length_cons]
  rw [e,List.length_cons (a:=x),Nat.add_mul]
  omega
theorem lvlK_len (o:Opt) (es:List Elt) (k:Nat):(lvlK o es k).length≤es.length:=by
 unfold lvlK
 split
 ·rw [List.length_reverse];exact Nat.le_trans (rowK_len _ _) (by rw [wtsL_len];exact Nat.le_refl _)
 ·exact Nat.le_trans (rowK_len _ _) (by rw [wtsL_len];exact Nat.le_refl _)
theorem wgtL_mem {o:Opt} {es:List Elt} {x:List Int} (h:x ∈ wgtL o es):x.length≤es.length:=by
 unfold wgtL at h
 obtain ⟨k,_,rfl⟩:=List.mem_map.1 h
 exact lvlK_len o es k
theorem joinW_len (o:Opt) (es:List Elt) (h:o.st≤4) (i:Nat):(joinL ((wgtL o es).take i)).length≤4*(es.length+1):=by
 refine Nat.le_trans (joinL_len (M:=es.length) (fun x hx=>wgtL_mem (List.mem_of_mem_take hx))) (Nat.mul_le_mul_right _ ?_)
 rw [List.length_take,wgtL_len]
 omega
theorem elsF_len {cl:Int→Int} {ent:List Int→Option (List Elt)} {imp:Int→List Elt} (h:∀p q,(Mtc.ofPart ent imp p q).length≤16) (t:List Int):(Mtc.elems cl ent imp t).length≤16*t.length:=by
 refine Mtc.parts_ind cl ent (P:=fun t=>(Mtc.elems cl ent imp t).length≤16*t.length) (by simp [Mtc.elems_nil]) (fun t ht ih=>?_) t
 rw [Mtc.elems_step ht,List.length_append]
 have h1:=h (Mtc.matched cl ent t).1 (Mtc.matched cl ent t).2.2
 have h2:=(Mtc.matched_len (cl:=cl) (ent:=ent) ht).1
 omega
theorem elsN_len (x:Nrm) (c:Col) (t:List Int):(elsN x c t).length≤1024*t.length:=by
 have h1:=elsF_len (cl:=cls (usN x).cls) (part_len (colD_ok c)) (dtx x false t)
 have h2:=dtx_len x false t
 unfold elsN
 omega
theorem idnL_len (d:List Int):(idnL d).length≤d.length:=by
 unfold idnL
 rw [List.length_map]
 exact List.length_filter_le _ _
theorem idnL_take {d:List Int} {i:Nat} (hi:i < d.length):idnL (d.take (i+1))=idnL (d.take i)++if 0≤d[i]∧d[i]≤1114111 then [d[i]+1] else []:=by
 rw [List.take_succ_eq_append_getElem hi,idnL_snoc]
theorem optD_idem (o:Opt):optD (optD o)=optD o:=if_pos (optD_ok o)
structure Grw (WD W:World) (base:Nat) (K0 K:Option Addr) (k:Nat) (zs:List Int):Prop where
 own:W.ownsRow base 3 1 (.slice K zs.length k) zs.length (zs.map (Value.int .i64))
 gr:WD.grownBy W (blk K0)
 or_:K=K0∨∀q,blk K=some q→WD.heap.size≤q
theorem Grw.app {WD W W':World} {base:Nat} {K0 K B:Option Addr} {k k':Nat} {zs ys:List Int} {o:Obj} (h:Grw WD W base K0 K k zs) (ho:W'.ownsRow base 3 1 (.slice B (zs.length+ys.length) k') (zs.length+ys.length) (zs.map (Value.int .i64)++ys.map (Value.int .i64))) (hg:(W.alloc o).grownBy W' (Value.ownBlock (.slice K zs.length k))) (hB:B=K∨B=some ⟨(W.alloc o).heap.size,0,none⟩):Grw WD W' base K0 B k' (zs++ys):=by
 rw [ownBlock_blk] at hg
 have h1:=gr_alloc h.gr o
 have hz:=h1.size
 refine ⟨by rw [List.length_append,List.map_append];exact ho,?_,?_⟩
 ·rcases h.or_ with rfl | g
  ·exact grownR_trans h1 hg
  ·exact ⟨hg.os.trans h1.os,hg.tape.trans h1.tape,hg.output.trans h1.output,Nat.le_trans hz hg.size,fun q hq hne=>(hg.block q (by omega) (fun e=>by have:=g q e.symm;omega)).trans (h1.block q hq hne)⟩
 ·rcases hB with rfl | rfl
  ·exact h.or_
  ·right
   intro q hq
   have:q=(W.alloc o).heap.size:=by injection hq with hq;exact hq.symm
   omega
theorem Grw.low {WD W:World} {base:Nat} {K0 K:Option Addr} {k:Nat} {zs:List Int} (h:Grw WD W base K0 K k zs) (hb:base≤WD.heap.size) (hk:∀q,blk K0=some q→base≤q):Below base WD W:=
 ⟨h.gr.os,h.gr.tape,h.gr.output,h.gr.size,fun q hq=>h.gr.block q (by omega) (fun e=>by have:=hk q e.symm;omega)⟩
theorem Grw.ints {WD W:World} {base:Nat} {K0 K A:Option Addr} {k n c bd:Nat} {zs d:List Int} (h:Grw WD W base K0 K k zs) (hA:WD.ownsRow bd 3 1 (.slice A n c) n (d.map (Value.int .i64))) (hk:∀q,blk K0=some q→q < bd):Ints W A d:=by
 refine Sl.of_own (hA.kept h.gr ?_)
 rw [ownBlock_blk]
 cases hb:blk A with
 | none=>exact .inl rfl
 | some q=>
  right
  intro e
  have h1:=(hA.lt q (by rw [ownBlock_blk];exact hb)).1
  have h2:=hk q e.symm
  omega
theorem key_own (A0:Option Addr) (n0 k0:Nat) (A1:Option Addr) (n1 k1:Nat) (A2:Option Addr) (n2 k2:Nat) (x:Nrm) (C:Option Addr) (n a:Nat) (B:Option Addr) (m b:Nat) (c:Col) (o:Opt) (D:Option Addr) (dn dk:Nat) (t:List Int) (w:World) (hN:NrmAt w A0 n0 A1 n1 A2 n2 x) (hz:NrmSz x) (hL:Laid w) (hC:ColAt w C n B m c) (hcz:ColSz c) (hD:Ints w D t) (hn:t.length=dn) (hbig:dn≤16384) (hio:∀z ∈ t,iok z) :
  Calls Tryz.prog 10 #[.agg #[.slice A0 n0 k0,.slice A1 n1 k1,.slice A2 n2 k2],colV C n a B m b c,.agg #[.int .i64 o.st,.int .i64 o.va,.bool o.bk,.bool o.idn],.slice D dn dk] w (RetOwnI (keyN (optD o) (elsN x c t) (dtx x false t)) w):=by
 subst hn
 have EF:=Lib.hid (fun W=>effective_any o W)
 obtain ⟨⟨hst1,hst4⟩,hva1,hva3⟩:=optD_bd o
 have hel:=elsN_len x c t
 have hdl:=dtx_len x false t
 have EC:=Lib.hid (fun W (hb:Below w.heap.size w W)=>elems_own A0 n0 k0 A1 n1 k1 A2 n2 k2 x C n a B m b c D t.length dk t W (hN.below hb) hz (hL.below hb) (hC.below hb) hcz (hD.below hb) rfl hbig hio)
 have DC:=Lib.hid (fun W (hb:Below w.heap.size w W)=>dText_own A0 n0 k0 A1 n1 k1 A2 n2 k2 x D t.length dk t false W (hN.below hb) hz (hL.below hb) (hD.below hb) rfl hbig hio)
 have OO:=optD_idem o
 have WC0:=Lib.hid (fun E k (W:World) (hE:Elts W E (elsN x c t))=>weights_any E (elsN x c t).length k (elsN x c t) (optD o) W hE rfl (by omega))
 rw [OO] at WC0
 have JL:=Lib.hid (joinW_len (optD o) (elsN x c t) hst4)
 have WLN:=wgtL_len (optD o) (elsN x c t)
 have WL4:(wgtL (optD o) (elsN x c t)).length≤4:=by omega
 have HK:=Lib.hid (show keyN (optD o) (elsN x c t) (dtx x false t)=joinL (wgtL (optD o) (elsN x c t))++if (optD o).idn=true then 0::idnL (dtx x false t) else [] from rfl)
 have WLM:=Lib.hid (fun y (hy:y ∈ wgtL (optD o) (elsN x c t))=>wgtL_mem hy)
 have IL:=Lib.hid (fun i=>idnL_len ((dtx x false t).take i))
 clear hN hz hL hC hcz hD hio OO WLN
 generalize keyN (optD o) (elsN x c t) (dtx x false t)=ky at *
 generalize wgtL (optD o) (elsN x c t)=wl at *
 generalize elsN x c t=els at *
 generalize dtx x false t=d at *
 generalize optD o=od at *
 obtain ⟨st0,va0,bk0,idn0⟩:=o
 obtain ⟨st,va,bk,idn⟩:=od
 dsimp only at *
 have WC:=Lib.hid (fun E k (W:World) hE=>WC0.out E k W hE)
 clear WC0 hva1 hva3 hst1 hst4
 unfold colV at *
 have B0:Below w.heap.size w (((w.alloc (.cells #[.slice A0 n0 k0,.slice A1 n1 k1,.slice A2 n2 k2] 28)).alloc (.cells #[.slice C n a,.slice B m b,.int .i64 c.base,.int .i64 c.second,.int .i64 c.third] 32)).alloc (.cells #[.int .i64 st0,.int .i64 va0,.bool bk0,.bool idn0] 34)):=(((Below.refl _ _).alloc (Nat.le_refl _) _).alloc (by simp) _).alloc (by simp <;> omega) _
 have X0:Box (((w.alloc (.cells #[.slice A0 n0 k0,.slice A1 n1 k1,.slice A2 n2 k2] 28)).alloc (.cells #[.slice C n a,.slice B m b,.int .i64 c.base,.int .i64 c.second,.int .i64 c.third] 32)).alloc (.cells #[.int .i64 st0,.int .i64 va0,.bool bk0,.bool idn0] 34)) w.heap.size 28 [.slice A0 n0 k0,.slice A1 n1 k1,.slice A2 n2 k2]:=bx_alloc (bx_alloc (Box.new w 28 [.slice A0 n0 k0,.slice A1 n1 k1,.slice A2 n2 k2] rfl) _) _
 have X1:Box (((w.alloc (.cells #[.slice A0 n0 k0,.slice A1 n1 k1,.slice A2 n2 k2] 28)).alloc (.cells #[.slice C n a,.slice B m b,.int .i64 c.base,.int .i64 c.second,.int .i64 c.third] 32)).alloc (.cells #[.int .i64 st0,.int .i64 va0,.bool bk0,.bool idn0] 34)) (w.heap.size+1) 32 [.slice C n a,.slice B m b,.int .i64 c.base,.int .i64 c.second,.int .i64 c.third]:=bx_alloc (Box.new _ 32 [.slice C n a,.slice B m b,.int .i64 c.base,.int .i64 c.second,.int .i64 c.third] (by simp)) _
 have X2:Box (((w.alloc (.cells #[.slice A0 n0 k0,.slice A1 n1 k1,.slice A2 n2 k2] 28)).alloc (.cells #[.slice C n a,.slice B m b,.int .i64 c.base,.int .i64 c.second,.int .i64 c.third] 32)).alloc (.cells #[.int .i64 st0,.int .i64 va0,.bool bk0,.bool idn0] 34)) (w.heap.size+1+1) 34 [.int .i64 st0,.int .i64 va0,.bool bk0,.bool idn0]:=Box.new _ _ _ (by simp)
 have W0E:∃W0,(((w.alloc (.cells #[.slice A0 n0 k0,.slice A1 n1 k1,.slice A2 n2 k2] 28)).alloc (.cells #[.slice C n a,.slice B m b,.int .i64 c.base,.int .i64 c.second,.int .i64 c.third] 32)).alloc (.cells #[.int .i64 st0,.int .i64 va0,.bool bk0,.bool idn0] 34))=W0:=⟨_,rfl⟩
 go_enter Tryz.func10,Tryz.ntmps10
 go_upto_region 1 with (fail)
 obtain ⟨W0,hW0⟩:=W0E
 try rw [hW0] at B0 X0 X1 X2 ⊢
 clear hW0
 have c0:=X2.cell (i:=0) rfl
 have c1:=X2.cell (i:=1) rfl
 have c2:=X2.cell (i:=2) rfl
 have c3:=X2.cell (i:=3) rfl
 have l0:=X0.lt
 have l1:=X1.lt
 have l2:=X2.lt
 go_wp2_with fail
 with_reducible refine (EF.out _).mono ?_
 rintro e W1 ⟨rfl,hb1⟩
 have B1:=B0.trans (hb1.mono B0.size)
 have Y0:=X0.below hb1 l0
 have Y1:=X1.below hb1 l1
 have Y2:=X2.below hb1 l2
 clear c0 c1 c2 c3 EF X0 X1 X2 hb1 B0
 have f0:=Y2.free 0
 have f1:=Y2.free 1
 have f2:=Y2.free 2
 have f3:=Y2.free 3
 have e0:=Y2.cell (i:=0) rfl
 have e1:=Y2.cell (i:=1) rfl
 have e2:=Y2.cell (i:=2) rfl
 have e3:=Y2.cell (i:=3) rfl
 have Z2:Box ((((W1.setCell ⟨w.heap.size+1+1,0,none⟩ (.int .i64 st)).setCell ⟨w.heap.size+1+1,1,none⟩ (.int .i64 va)).setCell ⟨w.heap.size+1+1,2,none⟩ (.bool bk)).setCell ⟨w.heap.size+1+1,3,none⟩ (.bool idn)) (w.heap.size+1+1) 34 [.int .i64 st,.int .i64 va,.bool bk,.bool idn]:=(((Y2.set 0 _).set 1 _).set 2 _).set 3 _
 have Z0:Box ((((W1.setCell ⟨w.heap.size+1+1,0,none⟩ (.int .i64 st)).setCell ⟨w.heap.size+1+1,1,none⟩ (.int .i64 va)).setCell ⟨w.heap.size+1+1,2,none⟩ (.bool bk)).setCell ⟨w.heap.size+1+1,3,none⟩ (.bool idn)) w.heap.size 28 [.slice A0 n0 k0,.slice A1 n1 k1,.slice A2 n2 k2]:=bx_ne (bx_ne (bx_ne (bx_ne Y0 _ (by simp;omega) _) _ (by simp;omega) _) _ (by simp;omega) _) _ (by simp;omega) _
 have Z1:Box ((((W1.setCell ⟨w.heap.size+1+1,0,none⟩ (.int .i64 st)).setCell ⟨w.heap.size+1+1,1,none⟩ (.int .i64 va)).setCell ⟨w.heap.size+1+1,2,none⟩ (.bool bk)).setCell ⟨w.heap.size+1+1,3,none⟩ (.bool idn)) (w.heap.size+1) 32 [.slice C n a,.slice B m b,.int .i64 c.base,.int .i64 c.second,.int .i64 c.third]:=bx_ne (bx_ne (bx_ne (bx_ne Y1 _ (by simp) _) _ (by simp) _) _ (by simp) _) _ (by simp) _
 have B5:Below w.heap.size w ((((W1.setCell ⟨w.heap.size+1+1,0,none⟩ (.int .i64 st)).setCell ⟨w.heap.size+1+1,1,none⟩ (.int .i64 va)).setCell ⟨w.heap.size+1+1,2,none⟩ (.bool bk)).setCell ⟨w.heap.size+1+1,3,none⟩ (.bool idn)):=(((B1.setCell (by simp;omega) _).setCell (by simp;omega) _).setCell (by simp;omega) _).setCell (by simp;omega) _
 have W5E:∃W5,((((W1.setCell ⟨w.heap.size+1+1,0,none⟩ (.int .i64 st)).setCell ⟨w.heap.size+1+1,1,none⟩ (.int .i64 va)).setCell ⟨w.heap.size+1+1,2,none⟩ (.bool bk)).setCell ⟨w.heap.size+1+1,3,none⟩ (.bool idn))=W5:=⟨_,rfl⟩
 go_upto_region 2 with (fail)
 obtain ⟨W5,hW5⟩:=W5E
 try rw [hW5] at B5 Z0 Z1 Z2 ⊢
 clear hW5 f0 f1 f2 f3 e0 e1 e2 e3 Y0 Y1 Y2 B1 l0 l1 l2
 have l0:=Z0.lt
 have l1:=Z1.lt
 have l2:=Z2.lt
 have p00:=Z0.cell (i:=0) rfl
 have p01:=Z0.cell (i:=1) rfl
 have p02:=Z0.cell (i:=2) rfl
 have p10:=Z1.cell (i:=0) rfl
 have p11:=Z1.cell (i:=1) rfl
 have p12:=Z1.cell (i:=2) rfl
 have p13:=Z1.cell (i:=3) rfl
 have p14:=Z1.cell (i:=4) rfl
 have p20:=Z2.cell (i:=0) rfl
 have p21:=Z2.cell (i:=1) rfl
 have p22:=Z2.cell (i:=2) rfl
 have p23:=Z2.cell (i:=3) rfl
 have SH:=Lib.hid (fun W' (hb':Below W5.heap.size W5 W')=>show W'.cell? ⟨w.heap.size,0,none⟩=some (.slice A0 n0 k0)∧W'.cell? ⟨w.heap.size,1,none⟩=some (.slice A1 n1 k1)∧W'.cell? ⟨w.heap.size,2,none⟩=some (.slice A2 n2 k2)∧W'.cell? ⟨w.heap.size+1,0,none⟩=some (.slice C n a)∧W'.cell? ⟨w.heap.size+1,1,none⟩=some (.slice B m b)∧W'.cell? ⟨w.heap.size+1,2,none⟩=some (.int .i64 c.base)∧W'.cell? ⟨w.heap.size+1,3,none⟩=some (.int .i64 c.second)∧W'.cell? ⟨w.heap.size+1,4,none⟩=some (.int .i64 c.third)∧W'.cell? ⟨w.heap.size+1+1,0,none⟩=some (.int .i64 st)∧W'.cell? ⟨w.heap.size+1+1,1,none⟩=some (.int .i64 va)∧W'.cell? ⟨w.heap.size+1+1,2,none⟩=some (.bool bk)∧W'.cell? ⟨w.heap.size+1+1,3,none⟩=some (.bool idn)∧Below W5.heap.size W5 W' from ⟨(hb'.cell l0).trans p00,(hb'.cell l0).trans p01,(hb'.cell l0).trans p02,(hb'.cell l1).trans p10,(hb'.cell l1).trans p11,(hb'.cell l1).trans p12,(hb'.cell l1).trans p13,(hb'.cell l1).trans p14,(hb'.cell l2).trans p20,(hb'.cell l2).trans p21,(hb'.cell l2).trans p22,(hb'.cell l2).trans p23,hb'⟩)
 have TE:=Lib.hid (fun W (hb':Below W5.heap.size W5 W)=>(EC.out W (B5.trans (hb'.mono B5.size))).mono (R':=fun e W'=>∃v,e=.returned v∧(W'.cell? ⟨w.heap.size,0,none⟩=some (.slice A0 n0 k0)∧W'.cell? ⟨w.heap.size,1,none⟩=some (.slice A1 n1 k1)∧W'.cell? ⟨w.heap.size,2,none⟩=some (.slice A2 n2 k2)∧W'.cell? ⟨w.heap.size+1,0,none⟩=some (.slice C n a)∧W'.cell? ⟨w.heap.size+1,1,none⟩=some (.slice B m b)∧W'.cell? ⟨w.heap.size+1,2,none⟩=some (.int .i64 c.base)∧W'.cell? ⟨w.heap.size+1,3,none⟩=some (.int .i64 c.second)∧W'.cell? ⟨w.heap.size+1,4,none⟩=some (.int .i64 c.third)∧W'.cell? ⟨w.heap.size+1+1,0,none⟩=some (.int .i64 st)∧W'.cell? ⟨w.heap.size+1+1,1,none⟩=some (.int .i64 va)∧W'.cell? ⟨w.heap.size+1+1,2,none⟩=some (.bool bk)∧W'.cell? ⟨w.heap.size+1+1,3,none⟩=some (.bool idn)∧Below W5.heap.size W5 W')∧(∃E d,v=.slice E els.length d∧Elts W' E els)) (fun e W' ⟨E,d,he,g1,g2⟩=>⟨_,he,SH.out W' (hb'.trans (g2.mono hb'.size)),E,d,rfl,Sl.of_own g1⟩))
 have HZ:=Lib.hid (And.intro Z0 (And.intro Z1 Z2))
 clear p00 p01 p02 p10 p11 p12 p13 p14 p20 p21 p22 p23 Z0 Z1 Z2
 unfold RetWgt at WC
 go_wp2_with fail
 refine wp_region_held_drew (S:=fun W'=>W'.cell? ⟨w.heap.size,0,none⟩=some (.slice A0 n0 k0)∧W'.cell? ⟨w.heap.size,1,none⟩=some (.slice A1 n1 k1)∧W'.cell? ⟨w.heap.size,2,none⟩=some (.slice A2 n2 k2)∧W'.cell? ⟨w.heap.size+1,0,none⟩=some (.slice C n a)∧W'.cell? ⟨w.heap.size+1,1,none⟩=some (.slice B m b)∧W'.cell? ⟨w.heap.size+1,2,none⟩=some (.int .i64 c.base)∧W'.cell? ⟨w.heap.size+1,3,none⟩=some (.int .i64 c.second)∧W'.cell? ⟨w.heap.size+1,4,none⟩=some (.int .i64 c.third)∧W'.cell? ⟨w.heap.size+1+1,0,none⟩=some (.int .i64 st)∧W'.cell? ⟨w.heap.size+1+1,1,none⟩=some (.int .i64 va)∧W'.cell? ⟨w.heap.size+1+1,2,none⟩=some (.bool bk)∧W'.cell? ⟨w.heap.size+1+1,3,none⟩=some (.bool idn)∧Below W5.heap.size W5 W') (by kernel_rfl) (SH.out _ ((Below.refl _ _).drew)) (fun hHeld=>?_)
 refine tK 0 16 ?_
 refine tK 1 17 ?_
 refine tK 2 18 ?_
 refine tK 4 20 ?_
 refine tK 7 23 ?_
 refine qE 3 19 (TE.out _ hHeld.2.2.2.2.2.2.2.2.2.2.2.2) ?_
 clear hHeld
 rintro _ W2 hHeld ⟨E2,d2,rfl,hE2⟩
 have TW:=Lib.hid ((WC.out E2 d2 W2 hE2).mono (R':=fun e W'=>∃v,e=.returned v∧(W'.cell? ⟨w.heap.size,0,none⟩=some (.slice A0 n0 k0)∧W'.cell? ⟨w.heap.size,1,none⟩=some (.slice A1 n1 k1)∧W'.cell? ⟨w.heap.size,2,none⟩=some (.slice A2 n2 k2)∧W'.cell? ⟨w.heap.size+1,0,none⟩=some (.slice C n a)∧W'.cell? ⟨w.heap.size+1,1,none⟩=some (.slice B m b)∧W'.cell? ⟨w.heap.size+1,2,none⟩=some (.int .i64 c.base)∧W'.cell? ⟨w.heap.size+1,3,none⟩=some (.int .i64 c.second)∧W'.cell? ⟨w.heap.size+1,4,none⟩=some (.int .i64 c.third)∧W'.cell? ⟨w.heap.size+1+1,0,none⟩=some (.int .i64 st)∧W'.cell? ⟨w.heap.size+1+1,1,none⟩=some (.int .i64 va)∧W'.cell? ⟨w.heap.size+1+1,2,none⟩=some (.bool bk)∧W'.cell? ⟨w.heap.size+1+1,3,none⟩=some (.bool idn)∧Below W5.heap.size W5 W')∧(∃B d,v=.slice B wl.length d∧RowsAt W' B wl)) (fun e W' ⟨B3,d3,he,g1,g2⟩=>⟨_,he,SH.out W' (hHeld.2.2.2.2.2.2.2.2.2.2.2.2.trans (g2.mono hHeld.2.2.2.2.2.2.2.2.2.2.2.2.size)),B3,d3,rfl,g1⟩))
 refine qE 5 21 (TW.out) ?_
 clear hHeld
 rintro _ W3 hHeld ⟨B3,d3,rfl,hrows⟩
 refine tK 6 22 ?_
 refine wpAnyH_done (by kernel_rfl) ?_ _
 have hb3:=hHeld.2.2.2.2.2.2.2.2.2.2.2.2
 have HBW:=Lib.hid (B5.trans (hb3.mono B5.size))
 have HB3:=Lib.hid hb3
 have HRW:=Lib.hid hrows
 have hs3:=hb3.size
 clear hHeld SH TE TW WC EC hrows hE2 hb3
 go_wp2_with fail
 go_loopw [9,23] (fun u v wr=>∃(i:Nat) (K:Option Addr) (k:Nat),i≤wl.length∧v=.int .i64 i∧u=.slice K (joinL (wl.take i)).length k∧wr.ownsRow W3.heap.size 3 1 (.slice K (joinL (wl.take i)).length k) (joinL (wl.take i)).length ((joinL (wl.take i)).map (Value.int .i64))∧Below W3.heap.size W3 wr) (fun _ v _=>wl.length - (intOf v).toNat)
 case atStart=>exact ⟨0,none,0,Nat.zero_le _,rfl,rfl,World.ownsRow_nil _ _ _ _,Below.refl _ _⟩
 case round=>
  obtain ⟨i,K,k,hi,rfl,rfl,ho,hbr⟩:=hrel
  have HO:=Lib.hid ho
  have hrs:=hbr.size
  clear ho
  by_cases hlt:i < wl.length
  ·obtain ⟨bb,oo,C4,c4,rfl,hcell3,hcc,hI⟩:=HRW.out.at hlt
   have hcell:=(hbr.cell (p:=⟨bb,oo+i,none⟩) (World.block_lt_of_cell? W3 _ hcell3)).trans hcell3
   have HI:=Lib.hid hI
   have HT:=Lib.hid (joinL_take hlt)
   have hj:=JL.out i
   have hwl:wl[i].length≤els.length:=WLM.out _ (List.getElem_mem hlt)
   have HJ:=Lib.hid hbr
   clear hI hbr hcell3 HRW
   generalize hj1:joinL (wl.take (i+1))=j1 at *
   have HJ1:=Lib.hid hj1
   clear hj1
   generalize joinL (wl.take i)=j0 at *
   generalize wl[i]=row at *
   have HI1:=Lib.hid (HI.out.below HJ.out)
   by_cases h0:i=0
   ·have HT0:=Lib.hid (show j1=j0++row from by rw [HT.out,if_pos h0,List.append_nil])
    have hi0:decide ((0:Int) < (i:Int))=false:=by simp;omega
    have hi1:¬0 < i:=by omega
    have hi2:decide (0 < i)=false:=by simpa using hi1
    clear h0
    clear HT
    go_wp2_with (at_builtin;refine wpList_app _ _ 37 3 (.int .i64 0) 1 8 rfl rfl Tryz.underlying37 info_int rfl (by decide) (by decide) rfl HO.out rfl HI1.out (by simp) (oneCell_ints _) (by omega) hrs ?_;intro K3 k3 w3 hown3 hc3 hb3 hg3 hB3)
    have HO3:=Lib.hid hown3
    have HB3':=Lib.hid (HJ.out.trans hb3)
    clear hown3 hc3 hb3 hg3 hB3
    go_wp2_with fail
    go_roundw
    case rel=>exact ⟨i+1,K3,k3,by omega,by go_num,by rw [HJ1.out,HT0.out,List.length_append],by rw [HJ1.out,HT0.out,List.length_append,List.map_append];exact HO3.out,HB3'.out⟩
    case measure=>simp [intOf];omega
   ·have HT0:=Lib.hid (show j1=(j0++[0])++row from by rw [HT.out,if_neg h0])
    clear HT
    have hi0:decide ((0:Int) < (i:Int))=true:=by simp;omega
    have HAL:=Lib.hid (fun (o:Obj)=>show Below wr.heap.size wr (wr.alloc o) from (Below.refl _ _).alloc (Nat.le_refl _) _)
    go_upto_region 8 with (at_builtin;refine wpList_app _ _ 37 3 (.int .i64 0) 1 8 rfl rfl Tryz.underlying37 info_int rfl (by decide) (by decide) rfl (HO.out.alloc _) rfl (Ints_new wr [0] _ rfl) (by simp) (oneCell_ints _) (by omega) (by simp;omega) ?_;intro K3 k3 w3 hown3 hc3 hb3 hg3 hB3)
    have HO3:=Lib.hid hown3
    have hb4:=HJ.out.trans (((HAL.out _).mono hrs).trans hb3)
    have HJ4:=Lib.hid hb4
    have hrs4:=hb4.size
    have HI4:=Lib.hid (HI.out.below hb4)
    clear hown3 hc3 hb3 hg3 hB3 hb4
    go_wp2_with (at_builtin;refine wpList_app _ _ 37 3 (.int .i64 0) 1 8 rfl rfl Tryz.underlying37 info_int rfl (by decide) (by decide) rfl HO3.out rfl HI4.out (by simp) (oneCell_ints _) (by omega) hrs4 ?_;intro K5 k5 w5 hown5 hc5 hb5 hg5 hB5)
    have HO5:=Lib.hid hown5
    have HB5':=Lib.hid (HJ4.out.trans hb5)
    clear hown5 hc5 hb5 hg5 hB5
    go_wp2_with fail
    go_roundw
    case rel=>exact ⟨i+1,K5,k5,by omega,by go_num,by rw [HJ1.out,HT0.out,List.length_append,List.length_append];rfl,by rw [HJ1.out,HT0.out,List.length_append,List.map_append,List.length_append,List.map_append];exact HO5.out,HB5'.out⟩
    case measure=>simp [intOf];omega
  ·obtain rfl:i=wl.length:=by omega
   have hj:=JL.out wl.length
   rw [List.take_length] at HO hj ⊢
   have hbw5:=HB3.out.trans (hbr.mono hs3)
   have HB5w:=Lib.hid hbw5
   have q3:=(hbw5.cell (p:=⟨w.heap.size+1+1,3,none⟩) l2).trans (HZ.out.2.2.cell (i:=3) rfl)
   have hw3:w.heap.size≤W3.heap.size:=by have:=HBW.out.size;exact this
   have HJ:=Lib.hid hbr
   clear hbr hbw5 JL WLM HRW
   generalize joinL wl=j0 at *
   cases idn with
   | false=>
    have HK2:=Lib.hid (show ky=j0 from by rw [HK.out,if_neg (by simp),List.append_nil])
    clear HK DC IL
    go_wp2_with fail
    go_ret
    exact ⟨K,k,by rw [HK2.out];rfl,by rw [HK2.out];exact own_mono HO.out hw3,HBW.out.trans (HJ.out.mono hw3)⟩
   | true=>
    have HK2:=Lib.hid (show ky=(j0++[0])++idnL d from by rw [HK.out,if_pos rfl,List.append_assoc];rfl)
    have IS:=Lib.hid (fun i (hi:i < d.length)=>idnL_take hi)
    have HAL:=Lib.hid (fun (o:Obj)=>show Below wr.heap.size wr (wr.alloc o) from (Below.refl _ _).alloc (Nat.le_refl _) _)
    clear HK
    go_upto_region 13 with (at_builtin;refine wpList_app _ _ 37 3 (.int .i64 0) 1 8 rfl rfl Tryz.underlying37 info_int rfl (by decide) (by decide) rfl (HO.out.alloc _) rfl (Ints_new wr [0] _ rfl) (by simp) (oneCell_ints _) (by omega) (by simp;omega) ?_;intro K3 k3 w3 hown3 hc3 hb3 hg3 hB3)
    have hb4:=HJ.out.trans (((HAL.out _).mono hrs).trans hb3)
    have HJ4:=Lib.hid hb4
    have hrs4:=hb4.size
    have hbw5:=HB3.out.trans (hb4.mono hs3)
    have q0:=(hbw5.cell (p:=⟨w.heap.size,0,none⟩) l0).trans (HZ.out.1.cell (i:=0) rfl)
    have q1:=(hbw5.cell (p:=⟨w.heap.size,1,none⟩) l0).trans (HZ.out.1.cell (i:=1) rfl)
    have q2:=(hbw5.cell (p:=⟨w.heap.size,2,none⟩) l0).trans (HZ.out.1.cell (i:=2) rfl)
    have CD:=Lib.hid (DC.out w3 (HBW.out.trans (hb4.mono hw3)))
    have HO3:=Lib.hid (show w3.ownsRow W3.heap.size 3 1 (.slice K3 (j0++[0]).length k3) (j0++[0]).length ((j0++[0]).map (Value.int .i64)) from by
     rw [List.length_append,List.map_append];exact hown3)
    have hl3:(j0++[0]).length=j0.length+1:=by simp
    have HL3:=Lib.hid hl3
    have hlt3:(j0++[0]).length≤4*(els.length+1)+1:=by omega
    clear hown3 hc3 hb3 hg3 hB3 hb4 DC q3 hl3
    generalize hjz:j0++[0]=jz at *
    clear hjz
    go_wp2_with fail
    with_reducible refine CD.out.mono ?_
    rintro e W6 ⟨D6,d6,rfl,hown6,hb6⟩
    have HD6:=Lib.hid hown6
    have hkb:∀q,blk K3=some q→W3.heap.size≤q∧q < w3.heap.size:=fun q hq=>HO3.out.lt q (by rw [ownBlock_blk];exact hq)
    have HKB:=Lib.hid hkb
    have HG6:=Lib.hid (show Grw W6 W6 W3.heap.size K3 K3 k3 (jz++idnL (d.take 0)) from by
     rw [List.take_zero,show idnL []=[] from rfl,List.append_nil]
     exact ⟨own_keep HO3.out hb6,grownR_refl _ _,.inl rfl⟩)
    have h36:W3.heap.size≤W6.heap.size:=by have:=hb6.size;omega
    have HB6:=Lib.hid (show Below W3.heap.size W3 W6 from HJ4.out.trans (hb6.mono hrs4))
    clear hown6 hb6 hkb CD q0 q1 q2 hbw5
    go_wp2_with fail
    go_loopw [9,48] (fun u v wr=>∃(i:Nat) (K:Option Addr) (k:Nat),i≤d.length∧v=.int .i64 i∧u=.slice K (jz++idnL (d.take i)).length k∧Grw W6 wr W3.heap.size K3 K k (jz++idnL (d.take i))) (fun _ v _=>d.length - (intOf v).toNat)
    case atStart=>exact ⟨0,K3,k3,Nat.zero_le _,rfl,by rw [List.take_zero,show idnL []=[] from rfl,List.append_nil,HL3.out],HG6.out⟩
    case round=>
     obtain ⟨i,K,k,hi,rfl,rfl,hg⟩:=hrel
     have HG:=Lib.hid hg
     have hgs:=hg.gr.size
     have HDI:=Lib.hid (hg.ints HD6.out (fun q hq=>(HKB.out q hq).2))
     clear hg HG6
     by_cases hlt:i < d.length
     ·obtain ⟨bb,oo,rfl,hcell⟩:=HDI.out.at hlt
      have hc0:=hcell i hlt
      have ISi:=Lib.hid (IS.out i hlt)
      have hil:=IL.out i
      rw [List.length_take] at hil
      have hlj:(jz++idnL (d.take i)).length≤jz.length+d.length:=by rw [List.length_append];omega
      clear hcell HDI
      generalize hj1:idnL (d.take (i+1))=j1 at *
      have HJ1:=Lib.hid hj1
      clear hj1
      generalize d[i]=z at *
      by_cases hz:0≤z∧z≤1114111
      ·obtain ⟨hz1,hz2⟩:=hz
       have HT0:=Lib.hid (show jz++j1=(jz++idnL (d.take i))++[z+1] from by rw [ISi.out,if_pos ⟨hz1,hz2⟩,List.append_assoc])
       have e1:decide (0≤z)=true:=by simpa using hz1
       have e2:decide (z≤1114111)=true:=by simpa using hz2
       clear ISi hil
       generalize jz++idnL (d.take i)=j0' at *
       go_wp2_with (at_builtin;refine wpList_app _ _ 37 3 (.int .i64 0) 1 8 rfl rfl Tryz.underlying37 info_int rfl (by decide) (by decide) rfl (HG.out.own.alloc _) rfl (Ints_new wr [z+1] _ rfl) (by simp) (oneCell_ints _) (by omega) (by simp;omega) ?_;intro K5 k5 w5 hown5 hc5 hb5 hg5 hB5)
       have HG5:=Lib.hid (HG.out.app (ys:=[z+1]) hown5 hg5 hB5)
       clear hown5 hc5 hb5 hg5 hB5
       go_wp2_with fail
       go_roundw
       case rel=>exact ⟨i+1,K5,k5,by omega,by go_num,by rw [HJ1.out,HT0.out,List.length_append];rfl,by rw [HJ1.out,HT0.out];exact HG5.out⟩
       case measure=>simp [intOf];omega
      ·have HT0:=Lib.hid (show jz++j1=jz++idnL (d.take i) from by rw [ISi.out,if_neg hz,List.append_nil])
       clear ISi hil
       generalize jz++idnL (d.take i)=j0' at *
       by_cases hz1:0≤z
       ·have hz2:¬z≤1114111:=fun g=>hz ⟨hz1,g⟩
        have e1:decide (0≤z)=true:=by simpa using hz1
        have e2:decide (z≤1114111)=false:=by simpa using hz2
        clear hz hz2 hz1
        go_wp2_with fail
        go_roundw
        case rel=>exact ⟨i+1,K,k,by omega,by go_num,by rw [HJ1.out,HT0.out],by rw [HJ1.out,HT0.out];exact HG.out⟩
        case measure=>simp [intOf];omega
       ·have e1:decide (0≤z)=false:=by simpa using hz1
        clear hz hz1
        go_wp2_with fail
        go_roundw
        case rel=>exact ⟨i+1,K,k,by omega,by go_num,by rw [HJ1.out,HT0.out],by rw [HJ1.out,HT0.out];exact HG.out⟩
        case measure=>simp [intOf];omega
     ·obtain rfl:i=d.length:=by omega
      rw [List.take_length] at HG ⊢
      have HLW:=Lib.hid (HG.out.low h36 (fun q hq=>(HKB.out q hq).1))
      have HKY:=Lib.hid (show jz++idnL d=ky from HK2.out.symm)
      clear HDI IS IL HK2
      generalize jz++idnL d=jf at *
      go_wp2_with fail
      go_ret
      exact ⟨K,k,by rw [←HKY.out];rfl,by rw [←HKY.out];exact own_mono HG.out.own hw3,HBW.out.trans ((HB6.out.trans HLW.out).mono hw3)⟩
end Go.Proofs.YtijgbonhjcblcaaGreatDoor
namespace Go.Proofs.YtijgbonhjcblcaaGreatDoor.Pk
open Go.RowKit
theorem cmp_neg:∀u v:List Int,cmpL u v=-cmpL v u
 | [],[]=>rfl
 | [],_::_=>rfl
 | _::_,[]=>rfl
 | a::u,b::v=>by
  unfold cmpL
  by_cases h:a < b
  ·rw [if_pos h,if_neg (by omega),if_pos h]
  ·rw [if_neg h]
   by_cases h2:b < a
   ·rw [if_pos h2,if_pos h2];rfl
   ·rw [if_neg h2,if_neg h2,if_neg h,cmp_neg u v]
theorem cmp_strip:∀p u v:List Int,cmpL (p++u) (p++v)=cmpL u v
 | [],_,_=>rfl
 | a::p,u,v=>by
  rw [List.cons_append,List.cons_append]
  conv=>lhs;unfold cmpL
  rw [if_neg (by omega),if_neg (by omega),cmp_strip p]
def fst (u:List Int):Int:=u.head?.getD 0
theorem fst_cons (a:Int) (u:List Int):fst (a::u)=a:=rfl
theorem fst_lt {u v:List Int} (h:fst u < fst v) (h0:0≤fst u):cmpL u v=-1:=by
 cases v with
 | nil=>simp [fst] at h h0;omega
 | cons b v=>
  cases u with
  | nil=>rfl
  | cons a u=>
   rw [fst_cons,fst_cons] at h
   unfold cmpL
   rw [if_pos h]
def low (m:Int) (q:Nat):List Int:=if q=0 then [] else [m+q - 1]
def high (m:Int) (q:Nat):List Int:=if q=0 then [] else [m+15 - q]
def pk (m:Int):Nat→List Int→List Int
 | q,[]=>low m q
 | q,x::r=>if x=m then (if q=7 then (m+7)::pk m 0 r else pk m (q+1) r) else if x < m then low m q++x::pk m 0 r else high m q++(x+14)::pk m 0 r
def Te (s t:List Int):Prop:=(s=[]∧t=[])∨∃a b,s=0::a∧t=0::b
theorem Te.fst {s t:List Int} (h:Te s t):Pk.fst s=0∧Pk.fst t=0:=by
 rcases h with ⟨rfl,rfl⟩ | ⟨a,b,rfl,rfl⟩ <;> exact ⟨rfl,rfl⟩
section
variable {m:Int}
theorem fst_low (q:Nat) (u:List Int):fst (low m q++u)=if q=0 then fst u else m+q - 1:=by
 unfold low
 split
 ·rfl
 ·rfl
theorem fst_high (q:Nat) (u:List Int):fst (high m q++u)=if q=0 then fst u else m+15 - q:=by
 unfold high
 split
 ·rfl
 ·rfl
theorem hd_m (t:List Int):∀(l:List Int) (q:Nat),q≤6→m+q≤fst (pk m (q+1) l++t)∧fst (pk m (q+1) l++t)≤m+14 - q
 | [],q,hq=>by
  unfold pk
  rw [fst_low,if_neg (by omega)]
  omega
 | x::r,q,hq=>by
  unfold pk
  split
  ·split
   ·next h7=>rw [List.cons_append,fst_cons];omega
   ·next h7=>have:=hd_m t r (q+1) (by omega);omega
  ·split
   ·rw [List.append_assoc,fst_low,if_neg (by omega)];omega
   ·rw [List.append_assoc,fst_high,if_neg (by omega)];omega
def Shp (m:Int) (q:Nat) (X:List Int) (a:Int):Prop:=
 (a < m∧∃u,X=low m q++u∧fst u=a)∨(a=m∧m+q≤fst X∧fst X≤m+14 - q)∨(m < a∧∃u,X=high m q++u∧fst u=a+14)
theorem shp_pk (hm:1≤m) {q:Nat} (hq:q≤7) {s t:List Int} (h:Te s t) (xs:List Int):Shp m q (pk m q xs++t) (fst (xs++s)):=by
 cases xs with
 | nil=>
  rw [List.nil_append,h.fst.1]
  exact .inl ⟨by omega,t,rfl,h.fst.2⟩
 | cons x r=>
  rw [List.cons_append,fst_cons]
  unfold pk
  split
  ·next he=>
   refine .inr (.inl ⟨he,?_⟩)
   split
   ·next h7=>subst h7;rw [List.cons_append,fst_cons];omega
   ·next h7=>have:=hd_m (m:=m) t r q (by omega);omega
  ·next he=>
   split
   ·next hl=>exact .inl ⟨hl,_,List.append_assoc _ _ _,rfl⟩
   ·next hl=>exact .inr (.inr ⟨by omega,_,List.append_assoc _ _ _,rfl⟩)
theorem shp_lt (hm:1≤m) {q:Nat} (hq:q≤7) {X Y:List Int} {a b:Int} (hX:Shp m q X a) (hY:Shp m q Y b) (h0:0≤a) (h:a < b):cmpL X Y=-1:=by
 rcases hX with ⟨h1,u,rfl,h2⟩ | ⟨h1,h2,h3⟩ | ⟨h1,u,rfl,h2⟩
 ·rcases hY with ⟨g1,v,rfl,g2⟩ | ⟨g1,g2,g3⟩ | ⟨g1,v,rfl,g2⟩
  ·rw [cmp_strip]
   exact fst_lt (by omega) (by omega)
  ·have e:=fst_low (m:=m) q u
   split at e <;> exact fst_lt (by omega) (by omega)
  ·have e:=fst_low (m:=m) q u
   have e':=fst_high (m:=m) q v
   split at e
   ·next hz=>rw [if_pos hz] at e';exact fst_lt (by omega) (by omega)
   ·next hz=>rw [if_neg hz] at e';exact fst_lt (by omega) (by omega)
 ·rcases hY with ⟨g1,v,rfl,g2⟩ | ⟨g1,g2,g3⟩ | ⟨g1,v,rfl,g2⟩
  ·omega
  ·omega
  ·have e':=fst_high (m:=m) q v
   split at e' <;> exact fst_lt (by omega) (by omega)
 ·rcases hY with ⟨g1,v,rfl,g2⟩ | ⟨g1,g2,g3⟩ | ⟨g1,v,rfl,g2⟩
  ·omega
  ·omega
  ·rw [cmp_strip]
   exact fst_lt (by omega) (by omega)
theorem pk_cmp (hm:1≤m):∀(xs ys:List Int) (q:Nat),q≤7→(∀x ∈ xs,1≤x)→(∀y ∈ ys,1≤y)→∀{s t s' t':List Int},Te s t→Te s' t'→cmpL t t'=cmpL s s'→cmpL (pk m q xs++t) (pk m q ys++t')=cmpL (xs++s) (ys++s')
 | xs,ys,q,hq,hx,hy,s,t,s',t',hs,hs',he=>by
  have h1:=shp_pk hm hq hs xs
  have h2:=shp_pk hm hq hs' ys
  have p1:0≤fst (xs++s):=by
   cases xs with
   | nil=>rw [List.nil_append,hs.fst.1];omega
   | cons x r=>have:=hx x (by simp);rw [List.cons_append,fst_cons];omega
  have p2:0≤fst (ys++s'):=by
   cases ys with
   | nil=>rw [List.nil_append,hs'.fst.1];omega
   | cons x r=>have:=hy x (by simp);rw [List.cons_append,fst_cons];omega
  rcases Int.lt_trichotomy (fst (xs++s)) (fst (ys++s')) with h | h | h
  ·rw [shp_lt hm hq h1 h2 p1 h,fst_lt h p1]
  ·match xs,ys,hx,hy,h with
   | [],[],_,_,_=>
    unfold pk
    rw [cmp_strip,he]
    rfl
   | [],y::r,_,hy,h=>
    have:=hy y (by simp)
    rw [List.nil_append,hs.fst.1,List.cons_append,fst_cons] at h
    omega
   | x::r,[],hx,_,h=>
    have:=hx x (by simp)
    rw [List.nil_append,hs'.fst.1,List.cons_append,fst_cons] at h
    omega
   | x::r,y::r',hx,hy,h=>
    rw [List.cons_append,List.cons_append,fst_cons,fst_cons] at h
    subst h
    have hr:cmpL ((x::r)++s) ((x::r')++s')=cmpL (r++s) (r'++s'):=cmp_strip [x] _ _
    rw [hr]
    have hx':∀z ∈ r,1≤z:=fun z hz=>hx z (by simp [hz])
    have hy':∀z ∈ r',1≤z:=fun z hz=>hy z (by simp [hz])
    unfold pk
    by_cases e:x=m
    ·rw [if_pos e,if_pos e]
     by_cases e7:q=7
     ·rw [if_pos e7,if_pos e7]
      exact (cmp_strip [m+7] _ _).trans (pk_cmp hm r r' 0 (by omega) hx' hy' hs hs' he)
     ·rw [if_neg e7,if_neg e7]
      exact pk_cmp hm r r' (q+1) (by omega) hx' hy' hs hs' he
    ·rw [if_neg e,if_neg e]
     by_cases l:x < m
     ·rw [if_pos l,if_pos l,List.append_assoc,List.append_assoc,cmp_strip]
      exact (cmp_strip [x] _ _).trans (pk_cmp hm r r' 0 (by omega) hx' hy' hs hs' he)
     ·rw [if_neg l,if_neg l,List.append_assoc,List.append_assoc,cmp_strip]
      exact (cmp_strip [x+14] _ _).trans (pk_cmp hm r r' 0 (by omega) hx' hy' hs hs' he)
  ·rw [cmp_neg,shp_lt hm hq h2 h1 p2 h,cmp_neg (xs++s),fst_lt h p2]
termination_by xs=>xs.length
end
structure Ord (D:Int→Prop) (f:Int→List Int):Prop where
 lt:∀x y,D x→D y→x < y→∃p a b u v,f x=p++a::u∧f y=p++b::v∧a < b
 ne:∀x,D x→f x≠[]
theorem ord_cmp {D:Int→Prop} {f:Int→List Int} (h:Ord D f):∀xs ys:List Int,(∀x ∈ xs,D x)→(∀y ∈ ys,D y)→cmpL (xs.flatMap f) (ys.flatMap f)=cmpL xs ys
 | [],[],_,_=>rfl
 | [],y::ys,_,hy=>by
  have:=h.ne y (hy y (by simp))
  rw [List.flatMap_cons]
  cases hf:f y with
  | nil=>exact absurd hf this
  | cons a u=>rfl
 | x::xs,[],hx,_=>by
  have:=h.ne x (hx x (by simp))
  rw [List.flatMap_cons]
  cases hf:f x with
  | nil=>exact absurd hf this
  | cons a u=>rfl
 | x::xs,y::ys,hx,hy=>by
  have dx:=hx x (by simp)
  have dy:=hy y (by simp)
  rw [List.flatMap_cons,List.flatMap_cons]
  conv=>rhs;unfold cmpL
  by_cases h1:x < y
  ·obtain ⟨p,a,b,u,v,e1,e2,hab⟩:=h.lt x y dx dy h1
   rw [if_pos h1,e1,e2,List.append_assoc,List.append_assoc,cmp_strip]
   show cmpL (a::(u++_)) (b::(v++_))=-1
   unfold cmpL
   rw [if_pos hab]
  ·rw [if_neg h1]
   by_cases h2:y < x
   ·obtain ⟨p,a,b,u,v,e1,e2,hab⟩:=h.lt y x dy dx h2
    rw [if_pos h2,e1,e2,List.append_assoc,List.append_assoc,cmp_strip]
    show cmpL (b::(v++_)) (a::(u++_))=1
    unfold cmpL
    rw [if_neg (by omega),if_pos hab]
   ·rw [if_neg h2]
    obtain rfl:x=y:=by omega
    rw [cmp_strip]
    exact ord_cmp h xs ys (fun z hz=>hx z (by simp [hz])) (fun z hz=>hy z (by simp [hz]))
def b4 (x:Int):List Int:=[x / 16777216,x / 65536 % 256,x / 256 % 256,x % 256]
theorem b4_ord:Ord (fun x=>0≤x∧x < 4294967296) b4 where
 ne x _:=by simp [b4]
 lt x y hx hy h:=by
  by_cases h1:x / 16777216 < y / 16777216
  ·exact ⟨[],_,_,_,_,rfl,rfl,h1⟩
  by_cases h2:x / 65536 % 256 < y / 65536 % 256
  ·exact ⟨[x / 16777216],_,_,[x / 256 % 256,x % 256],[y / 256 % 256,y % 256],rfl,by
    rw [show x / 16777216=y / 16777216 by omega];rfl,h2⟩
  by_cases h3:x / 256 % 256 < y / 256 % 256
  ·exact ⟨[x / 16777216,x / 65536 % 256],_,_,[x % 256],[y % 256],rfl,by
    rw [show x / 16777216=y / 16777216 by omega,show x / 65536 % 256=y / 65536 % 256 by omega];rfl,h3⟩
  ·exact ⟨[x / 16777216,x / 65536 % 256,x / 256 % 256],x % 256,y % 256,[],[],rfl,by
    rw [show x / 16777216=y / 16777216 by omega,show x / 65536 % 256=y / 65536 % 256 by omega,show x / 256 % 256=y / 256 % 256 by omega];rfl,by omega⟩
def vb (x:Int):List Int:=if x < 64 then [x] else if x < 16384 then [64+x / 256,x % 256] else [128,x / 65536,x / 256 % 256,x % 256]
theorem vb_1 {x:Int} (h:x < 64):vb x=[x]:=by unfold vb;rw [if_pos h]
theorem vb_2 {x:Int} (h1:¬x < 64) (h:x < 16384):vb x=[64+x / 256,x % 256]:=by unfold vb;rw [if_neg h1,if_pos h]
theorem vb_4 {x:Int} (h1:¬x < 64) (h:¬x < 16384):vb x=[128,x / 65536,x / 256 % 256,x % 256]:=by unfold vb;rw [if_neg h1,if_neg h]
theorem vb_ord:Ord (fun x=>0≤x∧x < 16777216) vb where
 ne x _:=by unfold vb;split <;> (try split) <;> simp
 lt x y hx hy h:=by
  by_cases x1:x < 64
  ·by_cases y1:y < 64
   ·exact ⟨[],x,y,[],[],vb_1 x1,vb_1 y1,h⟩
   ·by_cases y2:y < 16384
    ·exact ⟨[],x,64+y / 256,[],[y % 256],vb_1 x1,vb_2 y1 y2,by omega⟩
    ·exact ⟨[],x,128,[],[y / 65536,y / 256 % 256,y % 256],vb_1 x1,vb_4 y1 y2,by omega⟩
  ·have y1:¬y < 64:=by omega
   by_cases x2:x < 16384
   ·by_cases y2:y < 16384
    ·by_cases c:x / 256 < y / 256
     ·exact ⟨[],64+x / 256,64+y / 256,[x % 256],[y % 256],vb_2 x1 x2,vb_2 y1 y2,by omega⟩
     ·exact ⟨[64+x / 256],x % 256,y % 256,[],[],vb_2 x1 x2,by rw [vb_2 y1 y2,show x / 256=y / 256 by omega];rfl,by omega⟩
    ·exact ⟨[],64+x / 256,128,[x % 256],[y / 65536,y / 256 % 256,y % 256],vb_2 x1 x2,vb_4 y1 y2,by omega⟩
   ·have y2:¬y < 16384:=by omega
    by_cases c1:x / 65536 < y / 65536
    ·exact ⟨[128],x / 65536,y / 65536,[x / 256 % 256,x % 256],[y / 256 % 256,y % 256],vb_4 x1 x2,vb_4 y1 y2,c1⟩
    ·by_cases c2:x / 256 % 256 < y / 256 % 256
     ·exact ⟨[128,x / 65536],x / 256 % 256,y / 256 % 256,[x % 256],[y % 256],vb_4 x1 x2,by rw [vb_4 y1 y2,show x / 65536=y / 65536 by omega];rfl,c2⟩
     ·exact ⟨[128,x / 65536,x / 256 % 256],x % 256,y % 256,[],[],vb_4 x1 x2,by rw [vb_4 y1 y2,show x / 65536=y / 65536 by omega,show x / 256 % 256=y / 256 % 256 by omega];rfl,by omega⟩
end Go.Proofs.YtijgbonhjcblcaaGreatDoor.Pk
namespace Go.Proofs.YtijgbonhjcblcaaGreatDoor.Srl
open Go.RowKit
abbrev It:=List Int × Int
def ltI (x y:It):Prop:=cmpL x.1 y.1 < 0∨(cmpL x.1 y.1=0∧x.2 < y.2)
instance (x y:It):Decidable (ltI x y):=by unfold ltI;infer_instance
theorem ltI_trans {x y z:It} (h:ltI x y) (g:ltI y z):ltI x z:=by
 rcases h with h | ⟨h1,h2⟩
 ·rcases g with g | ⟨g1,g2⟩
  ·exact .inl (cmpL_lt_trans h g)
  ·rw [cmpL_eq_zero] at g1
   exact .inl (by rw [←g1];exact h)
 ·rw [cmpL_eq_zero] at h1
  rcases g with g | ⟨g1,g2⟩
  ·exact .inl (by rw [h1];exact g)
  ·exact .inr ⟨by rw [h1];exact g1,by omega⟩
theorem ltI_total {x y:It} (h:x≠y):ltI x y∨ltI y x:=by
 rcases cmpL_vals x.1 y.1 with e | e | e
 ·exact .inl (.inl (by omega))
 ·rcases Int.lt_trichotomy x.2 y.2 with g | g | g
  ·exact .inl (.inr ⟨e,g⟩)
  ·exact absurd (Prod.ext ((cmpL_eq_zero _ _).1 e) g) h
  ·exact .inr (.inr ⟨by rw [Pk.cmp_neg,e];rfl,g⟩)
 ·exact .inr (.inl (by rw [Pk.cmp_neg,e];omega))
section
variable {α:Type} {p:α→Bool}
theorem cnt_le (l:List α):l.countP p≤l.length:=List.countP_le_length
theorem cnt_take:∀{l:List α},l.Pairwise (fun a b=>p b=true→p a=true)→l.take (l.countP p)=l.filter p
 | [],_=>rfl
 | a::l,h=>by
  rw [List.pairwise_cons] at h
  by_cases ha:p a=true
  ·rw [List.countP_cons_of_pos ha,List.take_succ_cons,cnt_take h.2,List.filter_cons_of_pos ha]
  ·have hz:l.countP p=0:=by
    rw [List.countP_eq_zero]
    intro b hb hp
    exact ha (h.1 b hb hp)
   rw [List.countP_cons_of_neg ha,hz,List.take_zero,List.filter_cons_of_neg ha]
   symm
   rw [List.filter_eq_nil_iff]
   intro b hb hp
   exact ha (h.1 b hb hp)
theorem cnt_drop:∀{l:List α},l.Pairwise (fun a b=>p b=true→p a=true)→l.drop (l.countP p)=l.filter (fun x=>!p x)
 | [],_=>rfl
 | a::l,h=>by
  rw [List.pairwise_cons] at h
  by_cases ha:p a=true
  ·rw [List.countP_cons_of_pos ha,List.drop_succ_cons,cnt_drop h.2,List.filter_cons_of_neg (by simp [ha])]
  ·have hz:l.countP p=0:=by
    rw [List.countP_eq_zero]
    intro b hb hp
    exact ha (h.1 b hb hp)
   rw [List.countP_cons_of_neg ha,hz,List.drop_zero]
   symm
   rw [List.filter_eq_self]
   intro b hb
   rcases List.mem_cons.1 hb with rfl | hb
   ·simp [ha]
   ·have:¬p b=true:=fun hp=>ha (h.1 b hb hp)
    simp [this]
end
def plc (l:List It) (x:It):Nat:=l.countP (fun y=>decide (ltI y x))
theorem plc_pw {l:List It} (h:l.Pairwise ltI) (x:It):l.Pairwise (fun a b=>decide (ltI b x)=true→decide (ltI a x)=true):=
 h.imp (fun hab hb=>by simp at hb ⊢;exact ltI_trans hab hb)
def ins (l:List It) (x:It):List It:=l.take (plc l x)++x::l.drop (plc l x)
theorem ins_len {l:List It} {x:It}:(ins l x).length=l.length+1:=by
 unfold ins
 rw [List.length_append,List.length_cons,List.length_take,List.length_drop]
 have:plc l x≤l.length:=cnt_le _
 omega
theorem ins_asc {l:List It} {x:It} (h:l.Pairwise ltI) (hx:x ∉ l):(ins l x).Pairwise ltI:=by
 unfold ins
 have hp:=h
 rw [←List.take_append_drop (plc l x) l,List.pairwise_append] at hp
 rw [List.pairwise_append,List.pairwise_cons]
 have h1:∀y ∈ l.take (plc l x),ltI y x:=fun y hy=>by
  have e:l.take (plc l x)=l.filter (fun y=>decide (ltI y x)):=cnt_take (plc_pw h x)
  rw [e] at hy
  have:=(List.mem_filter.1 hy).2
  simpa using this
 have h2:∀y ∈ l.drop (plc l x),ltI x y:=fun y hy=>by
  have e:l.drop (plc l x)=l.filter (fun y=>!decide (ltI y x)):=cnt_drop (plc_pw h x)
  rw [e] at hy
  obtain ⟨hm,hn⟩:=List.mem_filter.1 hy
  have hne:x≠y:=fun e=>hx (by rw [e];exact hm)
  rcases ltI_total hne with g | g
  ·exact g
  ·simp at hn;exact absurd g hn
 refine ⟨hp.1,⟨h2,hp.2.1⟩,fun a ha b hb=>?_⟩
 rcases List.mem_cons.1 hb with rfl | hb
 ·exact h1 a ha
 ·exact ltI_trans (h1 a ha) (h2 b hb)
def frm (l:List It) (k:List Int):Nat:=l.countP (fun y=>decide (cmpL y.1 k < 0))
end Go.Proofs.YtijgbonhjcblcaaGreatDoor.Srl
namespace Go.Proofs.YtijgbonhjcblcaaGreatDoor.Srl
open Go.RowKit
abbrev Its:=List (Int × List Int)
section
variable (K:List Int→List Int)
def kI (p:Int × List Int):It:=(K p.2,p.1)
def kL (L:Its):List It:=L.map (kI K)
def idsL (L:Its):List Int:=L.map Prod.fst
def remL (L:Its) (id:Int):Its:=L.filter (fun p=>decide (p.1≠id))
def atL (L:Its) (id:Int) (t:List Int):Nat:=plc (kL K (remL L id)) (K t,id)
def putL (L:Its) (id:Int) (t:List Int):Its:=(remL L id).take (atL K L id t)++(id,t)::(remL L id).drop (atL K L id t)
structure Srt (L:Its):Prop where
 asc:(kL K L).Pairwise ltI
 one:(idsL L).Nodup
end
section
variable {K:List Int→List Int} {L:Its}
theorem kL_len:(kL K L).length=L.length:=by simp [kL]
theorem remL_ids {id:Int}:idsL (remL L id)=(idsL L).filter (fun z=>decide (z≠id)):=by
 unfold idsL remL
 rw [List.filter_map]
 rfl
theorem remL_not {id:Int}:id ∉ idsL (remL L id):=by
 rw [remL_ids]
 simp
theorem remL_mem {id:Int} {p:Int × List Int}:p ∈ remL L id ↔ p ∈ L∧p.1≠id:=by
 unfold remL
 rw [List.mem_filter]
 simp
theorem remL_srt (h:Srt K L) (id:Int):Srt K (remL L id):=by
 refine ⟨?_,?_⟩
 ·have:kL K (remL L id)=(kL K L).filter (fun z=>decide (z.2≠id)):=by
   unfold kL remL
   rw [List.filter_map]
   rfl
  rw [this]
  exact h.asc.filter _
 ·rw [remL_ids]
  exact h.one.filter _
theorem kL_mem {z:It}:z ∈ kL K L ↔ ∃p ∈ L,kI K p=z:=List.mem_map
theorem kL_not {k:List Int} {id:Int} (h:id ∉ idsL L):(k,id) ∉ kL K L:=by
 intro hm
 obtain ⟨p,hp,e⟩:=kL_mem.1 hm
 injection e with _ e
 exact h (by rw [←e];exact List.mem_map_of_mem (f:=Prod.fst) hp)
theorem putL_k (L:Its) (id:Int) (t:List Int):kL K (putL K L id t)=ins (kL K (remL L id)) (K t,id):=by
 unfold kL putL ins atL kL
 rw [List.map_append,List.map_cons,List.map_take,List.map_drop]
 rfl
theorem putL_mem {id:Int} {t:List Int} {p:Int × List Int}:p ∈ putL K L id t ↔ p=(id,t)∨(p ∈ L∧p.1≠id):=by
 unfold putL
 rw [List.mem_append,List.mem_cons]
 conv=>rhs;rw [←remL_mem,←List.take_append_drop (atL K L id t) (remL L id),List.mem_append]
 constructor
 ·rintro (h | h | h)
  ·exact .inr (.inl h)
  ·exact .inl h
  ·exact .inr (.inr h)
 ·rintro (h | h | h)
  ·exact .inr (.inl h)
  ·exact .inl h
  ·exact .inr (.inr h)
theorem putL_srt (h:Srt K L) (id:Int) (t:List Int):Srt K (putL K L id t):=by
 have hr:=remL_srt h id
 refine ⟨?_,?_⟩
 ·rw [putL_k]
  exact ins_asc hr.asc (kL_not remL_not)
 ·unfold putL idsL
  rw [List.map_append,List.map_cons]
  have hp:((remL L id).take (atL K L id t)++(remL L id).drop (atL K L id t))=remL L id:=List.take_append_drop _ _
  have h1:=hr.one
  have h2:id ∉ idsL (remL L id):=remL_not
  unfold idsL at h1 h2
  rw [←hp,List.map_append] at h1 h2
  rw [List.nodup_append] at h1 ⊢
  rw [List.mem_append,not_or] at h2
  refine ⟨h1.1,List.nodup_cons.2 ⟨h2.2,h1.2.1⟩,fun a ha b hb=>?_⟩
  rcases List.mem_cons.1 hb with e | e
  ·intro e'
   have e2:a=id:=e'.trans e
   exact h2.1 (by rw [←e2];rw [e2] at ha ⊢;exact ha)
  ·exact h1.2.2 a ha b e
theorem putL_len {id:Int} {t:List Int}:(putL K L id t).length=(remL L id).length+1:=by
 have:=congrArg List.length (putL_k (K:=K) L id t)
 rw [ins_len,kL_len,kL_len] at this
 exact this
end
end Go.Proofs.YtijgbonhjcblcaaGreatDoor.Srl
namespace Go.Proofs.YtijgbonhjcblcaaGreatDoor
open Go.RowKit Go.Maps Go.WideMaps
end Go.Proofs.YtijgbonhjcblcaaGreatDoor
namespace Go.Proofs.YtijgbonhjcblcaaGreatDoor
open Go.RowKit
theorem flatK_set {α:Type} (enc:α→List Value) (k:Nat) (hk:∀x,(enc x).length=k):∀(xs:List α) (i j:Nat) (v:Value) (y:α) (hi:i < xs.length),j < k→enc y=(enc xs[i]).set j v→(flatK enc xs).set (i*k+j) v=flatK enc (xs.set i y)
 | [],i,_,_,_,hi,_,_=>absurd hi (Nat.not_lt_zero _)
 | x::xs,0,j,v,y,_,hj,he=>by
  have e1:flatK enc (x::xs)=enc x++flatK enc xs:=by simp [flatK]
  have e2:flatK enc ((x::xs).set 0 y)=enc y++flatK enc xs:=by simp [flatK]
  rw [e1,e2,he,Nat.zero_mul,Nat.zero_add,List.set_append_left _ _ (by rw [hk];exact hj)]
  rfl
 | x::xs,i+1,j,v,y,hi,hj,he=>by
  have e1:flatK enc (x::xs)=enc x++flatK enc xs:=by simp [flatK]
  have e2:flatK enc ((x::xs).set (i+1) y)=enc x++flatK enc (xs.set i y):=by simp [flatK]
  have hi':i < xs.length:=by simpa using hi
  rw [e1,e2,List.set_append_right _ _ (by rw [hk,Nat.add_mul];omega),hk,show (i+1)*k+j - k=i*k+j by rw [Nat.add_mul,Nat.one_mul];omega]
  rw [flatK_set enc k hk xs i j v y hi' hj (by simpa using he)]
theorem zip_set {α β:Type}:∀(ms:List α) (vs:List β) (i:Nat) (v:β) (hi:i < ms.length),(ms.zip vs).set i (ms[i],v)=ms.zip (vs.set i v)
 | [],_,i,_,hi=>absurd hi (Nat.not_lt_zero _)
 | _::_,[],_,_,_=>by simp
 | m::ms,u::vs,0,v,_=>by simp
 | m::ms,u::vs,i+1,v,hi=>by simp [zip_set ms vs i v (by simpa using hi)]
def IntsAp (B:Option Addr) (z:Nat) (w:World) (C:Option Addr) (zs:List Int):Prop:=Ints w C zs∧(zs≠[]→∀q,blk C=some q→blk B≠some q∧q≠z)
theorem Sl.stored {w:World} {C:Option Addr} {cs:List Value} (h:Sl w C cs) (p:Addr) (hp:cs≠[]→∀q,blk C=some q→p.block≠q) (v:Value):Sl (w.setCell p v) C cs:=fun hne=>by
 obtain ⟨b,o,rfl,hc⟩:=h hne
 refine ⟨b,o,rfl,fun j u hu=>?_⟩
 have hn:=hp hne b rfl
 rw [World.cell?_of_block (Below.heap_setCell w p v b (fun e=>hn e.symm))]
 exact hc j u hu
theorem IntsAp.below {w w':World} {z:Nat} {B C:Option Addr} {zs:List Int} (h:IntsAp B z w C zs) (hb:Below w.heap.size w w'):IntsAp B z w' C zs:=⟨h.1.below hb,h.2⟩
theorem IntsAp.stored {w:World} {z:Nat} {B C:Option Addr} {zs:List Int} (h:IntsAp B z w C zs) (p:Addr) (hp:blk B=some p.block∨p.block=z) (v:Value):IntsAp B z (w.setCell p v) C zs:=
 ⟨Sl.stored h.1 p (fun hne q hq e=>by
  have h2:=h.2 (by rintro rfl;exact hne rfl) q hq
  rcases hp with g | g
  ·exact h2.1 (by rw [g,e])
  ·exact h2.2 (by rw [←e,g])) v,h.2⟩
theorem sl_lt {w:World} {C:Option Addr} {cs:List Value} (h:Sl w C cs) (hne:cs≠[]) {q:Nat} (hq:blk C=some q):q < w.heap.size:=by
 obtain ⟨b,o,rfl,hc⟩:=h hne
 have hl:0 < cs.length:=List.length_pos_iff.2 hne
 have h1:=hc 0 cs[0] (List.getElem?_eq_getElem hl)
 have:=World.block_lt_of_cell? w _ h1
 have e:b=q:=by injection hq
 dsimp only at this
 omega
theorem ints_ne {zs:List Int} (h:zs≠[]):zs.map (Value.int .i64)≠[]:=by simpa using h
theorem own_blk {w:World} {base:Nat} {e:TypeId} {size n c:Nat} {A:Option Addr} {xs:List Value} (h:w.ownsRow base e size (.slice A n c) n xs) {q:Nat} (hq:blk A=some q):base≤q∧q < w.heap.size:=h.lt q (by rw [ownBlock_blk];exact hq)
theorem own_at {w:World} {base:Nat} {e:TypeId} {size n c:Nat} {A:Option Addr} {xs:List Value} (h:w.ownsRow base e size (.slice A n c) n xs) (hn:0 < n):∃g,A=some ⟨g,0,none⟩∧base≤g∧g < w.heap.size:=by
 rcases h.2 with ⟨_,h0⟩ | ⟨g,cap,cur,hv,h1,h2,_⟩
 ·omega
 ·injection hv with hA _ _
  exact ⟨g,hA,h1,(own_blk h (by rw [hA];rfl)).2⟩
theorem own_z {w:World} {base z size n c:Nat} {e:TypeId} {B:Option Addr} {cs:List Value} (h:w.ownsRow base e size (.slice B n c) n cs) (hz:z < base) (p:Addr) (hp:p.block=z) (v:Value):(w.setCell p v).ownsRow base e size (.slice B n c) n cs:=
 ownsRow_setCell_below h (by omega) v
structure MpsIn (w:World) (base z:Nat) (B:Option Addr) (cap:Nat) (ms:List Mp):Prop where
 ex:∃vs:List Value,vs.length=ms.length∧w.ownsRow base 63 3 (.slice B ms.length cap) ms.length (flatK mpC (ms.zip vs))∧∀i,(hi:i < ms.length)→(hv:i < vs.length)→∃C c,vs[i]=.slice C ms[i].to.length c∧ms[i].to.length≤c∧IntsAp B z w C ms[i].to
section
variable {w w':World} {base z:Nat} {B:Option Addr} {cap:Nat} {ms:List Mp}
theorem MpsIn.below (h:MpsIn w base z B cap ms) (hb:Below w.heap.size w w'):MpsIn w' base z B cap ms:=by
 obtain ⟨vs,h1,h2,h3⟩:=h.ex
 refine ⟨vs,h1,own_keep h2 hb,fun i hi hv=>?_⟩
 obtain ⟨C,c,e1,e2,e3⟩:=h3 i hi hv
 exact ⟨C,c,e1,e2,e3.below hb⟩
theorem MpsIn.is (h:MpsIn w base z B cap ms):Mps w B ms:=by
 obtain ⟨vs,h1,h2,h3⟩:=h.ex
 refine ⟨vs,h1,Sl.of_own h2,fun i hi hv=>?_⟩
 obtain ⟨C,c,e1,e2,e3⟩:=h3 i hi hv
 exact ⟨C,c,e1,e2,e3.1⟩
theorem MpsIn.at (h:MpsIn w base z B cap ms) {i:Nat} (hi:i < ms.length):∃g C c,B=some ⟨g,0,none⟩∧base≤g∧g < w.heap.size∧w.cell? ⟨g,i*3,none⟩=some (.int .i64 ms[i].frm)∧w.cell? ⟨g,i*3+1,none⟩=some (.slice C ms[i].to.length c)∧w.cell? ⟨g,i*3+2,none⟩=some (.string ms[i].tag)∧w.frozen? ⟨g,i*3+1,none⟩=false∧Ints w C ms[i].to:=by
 obtain ⟨vs,h1,h2,h3⟩:=h.ex
 obtain ⟨g,rfl,hg1,hg2⟩:=own_at h2 (by omega)
 obtain ⟨C,c,e1,e2,e3⟩:=h3 i hi (by omega)
 have hzl:(ms.zip vs).length=ms.length:=by rw [List.length_zip];omega
 have hzi:i < (ms.zip vs).length:=by omega
 have ezi:(ms.zip vs)[i]=(ms[i],vs[i]'(by omega)):=List.getElem_zip
 have gt:=fun j (hj:j < 3)=>(h2.cellAt (i*3+j) (by omega)).trans (flatK_get mpC 3 (fun _=>rfl) (ms.zip vs) i j hzi hj)
 refine ⟨g,C,c,rfl,hg1,hg2,(gt 0 (by omega)).trans (by rw [ezi];rfl),(gt 1 (by omega)).trans (by rw [ezi,e1];rfl),(gt 2 (by omega)).trans (by rw [ezi];rfl),h2.frozenAt _,e3.1⟩
theorem MpsIn.put {g:Nat} (h:MpsIn w base z (some ⟨g,0,none⟩) cap ms) {i:Nat} (hi:i < ms.length) {C:Option Addr} {c:Nat} (hc:ms[i].to.length≤c) (hC:Ints w C ms[i].to) (hap:ms[i].to≠[]→∀q,blk C=some q→g≠q∧q≠z) :
  MpsIn (w.setCell ⟨g,i*3+1,none⟩ (.slice C ms[i].to.length c)) base z (some ⟨g,0,none⟩) cap ms:=by
 obtain ⟨vs,h1,h2,h3⟩:=h.ex
 have hzi:i < (ms.zip vs).length:=by rw [List.length_zip];omega
 have ezi:(ms.zip vs)[i]=(ms[i],vs[i]'(by omega)):=List.getElem_zip
 refine ⟨vs.set i (.slice C ms[i].to.length c),by simpa using h1,?_,fun j hj hv=>?_⟩
 ·have:=(h2.stored (i*3+1) (.slice C ms[i].to.length c)).1
  rw [flatK_set mpC 3 (fun _=>rfl) (ms.zip vs) i 1 _ (ms[i],.slice C ms[i].to.length c) hzi (by omega) (by rw [ezi];rfl),zip_set ms vs i _ hi] at this
  exact this
 ·have hIC:IntsAp (some ⟨g,0,none⟩) z w C ms[i].to:=⟨hC,fun hne q hq=>⟨fun e=>(hap hne q hq).1 (Option.some.inj (show some g=some q from e)),(hap hne q hq).2⟩⟩
  by_cases e:i=j
  ·subst e
   exact ⟨C,c,by rw [List.getElem_set_self],hc,hIC.stored ⟨g,i*3+1,none⟩ (.inl rfl) _⟩
  ·obtain ⟨C',c',e1,e2,e3⟩:=h3 j hj (by omega)
   exact ⟨C',c',by rw [List.getElem_set_ne e,e1],e2,e3.stored ⟨g,i*3+1,none⟩ (.inl rfl) _⟩
theorem MpsIn.off (h:MpsIn w base z B cap ms) (hz:z < base) (p:Addr) (hp:p.block=z) (v:Value):MpsIn (w.setCell p v) base z B cap ms:=by
 obtain ⟨vs,h1,h2,h3⟩:=h.ex
 refine ⟨vs,h1,own_z h2 hz p hp v,fun i hi hv=>?_⟩
 obtain ⟨C,c,e1,e2,e3⟩:=h3 i hi hv
 exact ⟨C,c,e1,e2,e3.stored p (.inr hp) v⟩
end
def EltsAp (B:Option Addr) (z:Nat) (w:World) (C:Option Addr) (es:List Elt):Prop:=Elts w C es∧(es≠[]→∀q,blk C=some q→blk B≠some q∧q≠z)
theorem EltsAp.below {w w':World} {z:Nat} {B C:Option Addr} {es:List Elt} (h:EltsAp B z w C es) (hb:Below w.heap.size w w'):EltsAp B z w' C es:=⟨h.1.below hb,h.2⟩
theorem EltsAp.stored {w:World} {z:Nat} {B C:Option Addr} {es:List Elt} (h:EltsAp B z w C es) (p:Addr) (hp:blk B=some p.block∨p.block=z) (v:Value):EltsAp B z (w.setCell p v) C es:=
 ⟨Sl.stored h.1 p (fun hne q hq e=>by
  have h2:=h.2 (by rintro rfl;exact hne rfl) q hq
  rcases hp with g | g
  ·exact h2.1 (by rw [g,e])
  ·exact h2.2 (by rw [←e,g])) v,h.2⟩
def enC (v:Value × Value):List Value:=[v.1,v.2]
structure EntsIn (w:World) (base z:Nat) (B:Option Addr) (cap:Nat) (xs:List Ent):Prop where
 ex:∃vs:List (Value × Value),vs.length=xs.length∧w.ownsRow base 105 2 (.slice B xs.length cap) xs.length (flatK enC vs)∧∀i,(hi:i < xs.length)→(hv:i < vs.length)→∃C c E d,vs[i]=(.slice C xs[i].codes.length c,.slice E xs[i].elems.length d)∧IntsAp B z w C xs[i].codes∧EltsAp B z w E xs[i].elems
section
variable {w w':World} {base z:Nat} {B:Option Addr} {cap:Nat} {xs:List Ent}
theorem EntsIn.below (h:EntsIn w base z B cap xs) (hb:Below w.heap.size w w'):EntsIn w' base z B cap xs:=by
 obtain ⟨vs,h1,h2,h3⟩:=h.ex
 refine ⟨vs,h1,own_keep h2 hb,fun i hi hv=>?_⟩
 obtain ⟨C,c,E,d,e1,e2,e3⟩:=h3 i hi hv
 exact ⟨C,c,E,d,e1,e2.below hb,e3.below hb⟩
theorem EntsIn.is (h:EntsIn w base z B cap xs):Ents w B xs:=by
 obtain ⟨vs,h1,h2,h3⟩:=h.ex
 refine ⟨vs,h1,Sl.of_own h2,fun i hi hv=>?_⟩
 obtain ⟨C,c,E,d,e1,e2,e3⟩:=h3 i hi hv
 exact ⟨C,c,E,d,e1,e2.1,e3.1⟩
theorem EntsIn.at (h:EntsIn w base z B cap xs) {i:Nat} (hi:i < xs.length):∃g C c E d,B=some ⟨g,0,none⟩∧base≤g∧g < w.heap.size∧w.cell? ⟨g,i*2,none⟩=some (.slice C xs[i].codes.length c)∧w.cell? ⟨g,i*2+1,none⟩=some (.slice E xs[i].elems.length d)∧w.frozen? ⟨g,i*2,none⟩=false∧w.frozen? ⟨g,i*2+1,none⟩=false∧Ints w C xs[i].codes∧Elts w E xs[i].elems:=by
 obtain ⟨vs,h1,h2,h3⟩:=h.ex
 obtain ⟨g,rfl,hg1,hg2⟩:=own_at h2 (by omega)
 obtain ⟨C,c,E,d,e1,e2,e3⟩:=h3 i hi (by omega)
 have hzi:i < vs.length:=by omega
 have gt:=fun j (hj:j < 2)=>(h2.cellAt (i*2+j) (by omega)).trans (flatK_get enC 2 (fun _=>rfl) vs i j hzi hj)
 exact ⟨g,C,c,E,d,rfl,hg1,hg2,(gt 0 (by omega)).trans (by rw [e1];rfl),(gt 1 (by omega)).trans (by rw [e1];rfl),h2.frozenAt _,h2.frozenAt _,e2.1,e3.1⟩
theorem EntsIn.put {g:Nat} (h:EntsIn w base z (some ⟨g,0,none⟩) cap xs) {i:Nat} (hi:i < xs.length) {C:Option Addr} {c:Nat} {E:Option Addr} {d:Nat} (hC:Ints w C xs[i].codes) (hap:xs[i].codes≠[]→∀q,blk C=some q→g≠q∧q≠z) (hE:Elts w E xs[i].elems) (hape:xs[i].elems≠[]→∀q,blk E=some q→g≠q∧q≠z) :
  EntsIn ((w.setCell ⟨g,i*2,none⟩ (.slice C xs[i].codes.length c)).setCell ⟨g,i*2+1,none⟩ (.slice E xs[i].elems.length d)) base z (some ⟨g,0,none⟩) cap xs:=by
 obtain ⟨vs,h1,h2,h3⟩:=h.ex
 have hzi:i < vs.length:=by omega
 refine ⟨(vs.set i (.slice C xs[i].codes.length c,vs[i].2)).set i (.slice C xs[i].codes.length c,.slice E xs[i].elems.length d),by simpa using h1,?_,fun j hj hv=>?_⟩
 ·have t1:=(h2.stored (i*2+0) (.slice C xs[i].codes.length c)).1
  rw [flatK_set enC 2 (fun _=>rfl) vs i 0 _ (.slice C xs[i].codes.length c,vs[i].2) hzi (by omega) rfl] at t1
  have t2:=(t1.stored (i*2+1) (.slice E xs[i].elems.length d)).1
  rw [flatK_set enC 2 (fun _=>rfl) (vs.set i (.slice C xs[i].codes.length c,vs[i].2)) i 1 _ (.slice C xs[i].codes.length c,.slice E xs[i].elems.length d) (by simpa using hzi) (by omega) (by rw [List.getElem_set_self];rfl)] at t2
  exact t2
 ·have hIC:IntsAp (some ⟨g,0,none⟩) z w C xs[i].codes:=⟨hC,fun hne q hq=>⟨fun e=>(hap hne q hq).1 (Option.some.inj (show some g=some q from e)),(hap hne q hq).2⟩⟩
  have hIE:EltsAp (some ⟨g,0,none⟩) z w E xs[i].elems:=⟨hE,fun hne q hq=>⟨fun e=>(hape hne q hq).1 (Option.some.inj (show some g=some q from e)),(hape hne q hq).2⟩⟩
  by_cases e:i=j
  ·subst e
   exact ⟨C,c,E,d,by rw [List.getElem_set_self],(hIC.stored ⟨g,i*2,none⟩ (.inl rfl) _).stored ⟨g,i*2+1,none⟩ (.inl rfl) _,(hIE.stored ⟨g,i*2,none⟩ (.inl rfl) _).stored ⟨g,i*2+1,none⟩ (.inl rfl) _⟩
  ·obtain ⟨C',c',E',d',e1,e2,e3⟩:=h3 j hj (by omega)
   exact ⟨C',c',E',d',by rw [List.getElem_set_ne e,List.getElem_set_ne e,e1],(e2.stored ⟨g,i*2,none⟩ (.inl rfl) _).stored ⟨g,i*2+1,none⟩ (.inl rfl) _,(e3.stored ⟨g,i*2,none⟩ (.inl rfl) _).stored ⟨g,i*2+1,none⟩ (.inl rfl) _⟩
theorem EntsIn.off (h:EntsIn w base z B cap xs) (hz:z < base) (p:Addr) (hp:p.block=z) (v:Value):EntsIn (w.setCell p v) base z B cap xs:=by
 obtain ⟨vs,h1,h2,h3⟩:=h.ex
 refine ⟨vs,h1,own_z h2 hz p hp v,fun i hi hv=>?_⟩
 obtain ⟨C,c,E,d,e1,e2,e3⟩:=h3 i hi hv
 exact ⟨C,c,E,d,e1,e2.stored p (.inr hp) v,e3.stored p (.inr hp) v⟩
end
end Go.Proofs.YtijgbonhjcblcaaGreatDoor
