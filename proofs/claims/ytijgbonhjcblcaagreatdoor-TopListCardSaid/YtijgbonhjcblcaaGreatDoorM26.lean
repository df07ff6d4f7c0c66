/- Texts that are merged into one file: SlCopy, SlNew. -/
import Derived.Test.YtijgbonhjcblcaaGreatDoorM10
import Derived.Test.YtijgbonhjcblcaaGreatDoorM11
import Derived.Test.YtijgbonhjcblcaaGreatDoorM14
import Derived.Test.YtijgbonhjcblcaaGreatDoorM16
import Derived.Test.YtijgbonhjcblcaaGreatDoorM17
import Derived.Test.YtijgbonhjcblcaaGreatDoorM23
import Derived.Test.YtijgbonhjcblcaaGreatDoorM25
import Derived.Deep.Cut
set_option maxRecDepth 100000
set_option maxHeartbeats 51200000
namespace Go.Proofs.YtijgbonhjcblcaaGreatDoor
open Go.RowKit Go.Maps Go.WideMaps
theorem spans_one (ss:List Spn):∀u ∈ flat3 ss,u.oneCell'=true:=by
 intro u hu
 obtain ⟨g,_,hg⟩:=List.mem_flatMap.1 hu
 simp only [List.mem_cons,List.not_mem_nil,or_false] at hg
 rcases hg with rfl | rfl | rfl <;> rfl
theorem rgs_one (rs:List Rg):∀u ∈ flatK Rg.cells rs,u.oneCell'=true:=by
 intro u hu
 obtain ⟨g,_,hg⟩:=List.mem_flatMap.1 hu
 simp only [Rg.cells,List.mem_cons,List.not_mem_nil,or_false] at hg
 rcases hg with rfl | rfl <;> rfl
theorem grps_one (gs:List Grp):∀u ∈ flatK Grp.cells gs,u.oneCell'=true:=by
 intro u hu
 obtain ⟨g,_,hg⟩:=List.mem_flatMap.1 hu
 simp only [Grp.cells,List.mem_cons,List.not_mem_nil,or_false] at hg
 rcases hg with rfl | rfl | rfl <;> rfl
theorem copiedNorm_any (A0:Option Addr) (n0 k0:Nat) (A1:Option Addr) (n1 k1:Nat) (A2:Option Addr) (n2 k2:Nat) (x:Nrm) (w:World) (hN:NrmAt w A0 n0 A1 n1 A2 n2 x) (hz:NrmSz x) :
  Calls Tryz.prog 47 #[.agg #[.slice A0 n0 k0,.slice A1 n1 k1,.slice A2 n2 k2]] w (RetNrm x w):=by
 obtain ⟨hS,hM,hR,rfl,rfl,rfl⟩:=hN
 have B0:Below w.heap.size w ((w.alloc (.cells #[.slice A0 x.cls.length k0,.slice A1 x.dec.length k1,.slice A2 x.exc.length k2] 28)).alloc (.cells #[.slice none 0 0,.slice none 0 0,.slice none 0 0] 28)):=((Below.refl _ _).alloc (Nat.le_refl _) _).alloc (by simp) _
 have X0:Box ((w.alloc (.cells #[.slice A0 x.cls.length k0,.slice A1 x.dec.length k1,.slice A2 x.exc.length k2] 28)).alloc (.cells #[.slice none 0 0,.slice none 0 0,.slice none 0 0] 28)) w.heap.size 28 [.slice A0 x.cls.length k0,.slice A1 x.dec.length k1,.slice A2 x.exc.length k2]:=bx_alloc (Box.new w 28 [.slice A0 x.cls.length k0,.slice A1 x.dec.length k1,.slice A2 x.exc.length k2] rfl) _
 have X1:Box ((w.alloc (.cells #[.slice A0 x.cls.length k0,.slice A1 x.dec.length k1,.slice A2 x.exc.length k2] 28)).alloc (.cells #[.slice none 0 0,.slice none 0 0,.slice none 0 0] 28)) (w.heap.size+1) 28 [.slice none 0 0,.slice none 0 0,.slice none 0 0]:=Box.new _ _ _ (by simp)
 have W0E:∃W0,((w.alloc (.cells #[.slice A0 x.cls.length k0,.slice A1 x.dec.length k1,.slice A2 x.exc.length k2] 28)).alloc (.cells #[.slice none 0 0,.slice none 0 0,.slice none 0 0] 28))=W0:=⟨_,rfl⟩
 obtain ⟨cs1,hc1,hl1,h11,hin⟩:=mps_raw hM
 have z0:=hz.z0
 have z1:=hz.z1.n
 have z2:=hz.z2
 have C0:=Lib.hid (fun W (hb:Below w.heap.size w W)=>cloneSpan_raw A0 x.cls.length k0 (flat3 x.cls) W (Sl.below hS hb) (flat3_len x.cls) (spans_one _) (by omega))
 have C1:=Lib.hid (fun W (hb:Below w.heap.size w W)=>cloneMapping_raw A1 x.dec.length k1 cs1 W (Sl.below hc1 hb) hl1 h11 (by omega))
 have C2:=Lib.hid (fun W (hb:Below w.heap.size w W)=>cloneRange_raw A2 x.exc.length k2 (flatK Rg.cells x.exc) W (Sl.below hR hb) (flatK_len Rg.cells 2 (fun _=>rfl) x.exc) (rgs_one _) (by omega))
 have HIN:=Lib.hid hin
 have CI:=Lib.hid (fun i (hi:i < x.dec.length) C c W (hI:Ints W C x.dec[i].to)=>cloneI_any C x.dec[i].to.length c x.dec[i].to W hI rfl (hz.z1.e i hi).1)
 have HFIN:=Lib.hid (fun B0' B1' B2' W (h0:Spans W B0' x.cls) (h1:Mps W B1' x.dec) (h2:Rgs W B2' x.exc)=>(⟨h0,h1,h2,rfl,rfl,rfl⟩:NrmAt W B0' x.cls.length B1' x.dec.length B2' x.exc.length x))
 have SZ:=Lib.hid (fun i (hi:i < x.dec.length)=>(hz.z1.e i hi).1)
 unfold RetOwnC at C0 C1 C2
 unfold RetOwnI at CI
 clear hS hM hR hz hc1 hl1 h11 hin z0 z2
 go_enter Tryz.func47,Tryz.ntmps47
 go_upto_region 1 with (fail)
 obtain ⟨W0,hW0⟩:=W0E
 try rw [hW0] at B0 X0 X1 ⊢
 clear hW0
 have s0:=X0.lt
 have s1:=X1.lt
 have d0:=X0.cell (i:=0) rfl
 go_wp2_with fail
 with_reducible refine (C0.out W0 B0).mono ?_
 rintro e Wa ⟨E0,e0,rfl,O0,hba⟩
 have f0:=(X0.below hba s0).free 0
 have g0:=(X0.below hba s0).cell (i:=0) rfl
 have Y0:Box (Wa.setCell ⟨w.heap.size,0,none⟩ (.slice E0 x.cls.length e0)) w.heap.size 28 [.slice E0 x.cls.length e0,.slice A1 x.dec.length k1,.slice A2 x.exc.length k2]:=(X0.below hba s0).set 0 _
 have Y1:Box (Wa.setCell ⟨w.heap.size,0,none⟩ (.slice E0 x.cls.length e0)) (w.heap.size+1) 28 [.slice none 0 0,.slice none 0 0,.slice none 0 0]:=bx_ne (X1.below hba s1) _ (by simp) _
 have Bb:Below w.heap.size w (Wa.setCell ⟨w.heap.size,0,none⟩ (.slice E0 x.cls.length e0)):=(B0.trans (hba.mono B0.size)).setCell (Nat.le_refl _) _
 have NO0:=ownsRow_setCell_below O0 (a:=⟨w.heap.size,0,none⟩) s0 (.slice E0 x.cls.length e0)
 have hsz:W0.heap.size≤(Wa.setCell ⟨w.heap.size,0,none⟩ (.slice E0 x.cls.length e0)).heap.size:=by have:=hba.size;simpa using this
 have hlq:Below W0.heap.size w (Wa.setCell ⟨w.heap.size,0,none⟩ (.slice E0 x.cls.length e0))→True:=fun _=>trivial
 have WE:∃W,(Wa.setCell ⟨w.heap.size,0,none⟩ (.slice E0 x.cls.length e0))=W:=⟨_,rfl⟩
 clear O0 d0 X0 X1 hba B0 hlq
 go_upto_region 2 with (fail)
 obtain ⟨W1,hW⟩:=WE
 try rw [hW] at Bb Y0 Y1 hsz NO0 ⊢
 clear hW f0 g0 C0
 have O0:=NO0
 clear NO0
 have X0:=Y0
 have X1:=Y1
 have B0:=Bb
 have zW0:=hsz
 have tW0:=s1
 clear Y0 Y1 Bb hsz s1
 have sW0:=s0
 clear s0
 have s0:=X0.lt
 have s1:=X1.lt
 have Q0:=Lib.hid (fun q (hq:blk E0=some q)=>own_blk O0 hq)
 have d0:=X0.cell (i:=2) rfl
 go_wp2_with fail
 with_reducible refine (C2.out W1 B0).mono ?_
 rintro e Wb ⟨E2,e2,rfl,O2,hba⟩
 have f0:=(X0.below hba s0).free 2
 have g0:=(X0.below hba s0).cell (i:=2) rfl
 have Y0:Box (Wb.setCell ⟨w.heap.size,2,none⟩ (.slice E2 x.exc.length e2)) w.heap.size 28 [.slice E0 x.cls.length e0,.slice A1 x.dec.length k1,.slice E2 x.exc.length e2]:=(X0.below hba s0).set 2 _
 have Y1:Box (Wb.setCell ⟨w.heap.size,2,none⟩ (.slice E2 x.exc.length e2)) (w.heap.size+1) 28 [.slice none 0 0,.slice none 0 0,.slice none 0 0]:=bx_ne (X1.below hba s1) _ (by simp) _
 have Bb:Below w.heap.size w (Wb.setCell ⟨w.heap.size,2,none⟩ (.slice E2 x.exc.length e2)):=(B0.trans (hba.mono B0.size)).setCell (Nat.le_refl _) _
 have NO2:=ownsRow_setCell_below O2 (a:=⟨w.heap.size,2,none⟩) s0 (.slice E2 x.exc.length e2)
 have NO0:=ownsRow_setCell_below (own_keep O0 hba) (a:=⟨w.heap.size,2,none⟩) (by omega) (.slice E2 x.exc.length e2)
 have hsz:W1.heap.size≤(Wb.setCell ⟨w.heap.size,2,none⟩ (.slice E2 x.exc.length e2)).heap.size:=by have:=hba.size;simpa using this
 have hlq:Below W1.heap.size w (Wb.setCell ⟨w.heap.size,2,none⟩ (.slice E2 x.exc.length e2))→True:=fun _=>trivial
 have WE:∃W,(Wb.setCell ⟨w.heap.size,2,none⟩ (.slice E2 x.exc.length e2))=W:=⟨_,rfl⟩
 clear O2 O0 d0 X0 X1 hba B0 hlq
 go_upto_region 3 with (fail)
 obtain ⟨W2,hW⟩:=WE
 try rw [hW] at Bb Y0 Y1 hsz NO2 NO0 ⊢
 clear hW f0 g0 C2
 have O2:=NO2
 clear NO2
 have O0:=NO0
 clear NO0
 have X0:=Y0
 have X1:=Y1
 have B0:=Bb
 have zW1:=hsz
 have tW1:=s1
 clear Y0 Y1 Bb hsz s1
 have sW1:=s0
 clear s0
 have s0:=X0.lt
 have s1:=X1.lt
 have Q2:=Lib.hid (fun q (hq:blk E2=some q)=>own_blk O2 hq)
 have d0:=X0.cell (i:=1) rfl
 go_wp2_with fail
 with_reducible refine (C1.out W2 B0).mono ?_
 rintro e Wc ⟨E1,e1,rfl,O1,hba⟩
 have f0:=(X0.below hba s0).free 1
 have g0:=(X0.below hba s0).cell (i:=1) rfl
 have Y0:Box (Wc.setCell ⟨w.heap.size,1,none⟩ (.slice E1 x.dec.length e1)) w.heap.size 28 [.slice E0 x.cls.length e0,.slice E1 x.dec.length e1,.slice E2 x.exc.length e2]:=(X0.below hba s0).set 1 _
 have Y1:Box (Wc.setCell ⟨w.heap.size,1,none⟩ (.slice E1 x.dec.length e1)) (w.heap.size+1) 28 [.slice none 0 0,.slice none 0 0,.slice none 0 0]:=bx_ne (X1.below hba s1) _ (by simp) _
 have Bb:Below w.heap.size w (Wc.setCell ⟨w.heap.size,1,none⟩ (.slice E1 x.dec.length e1)):=(B0.trans (hba.mono B0.size)).setCell (Nat.le_refl _) _
 have NO1:=ownsRow_setCell_below O1 (a:=⟨w.heap.size,1,none⟩) s0 (.slice E1 x.dec.length e1)
 have NO0:=ownsRow_setCell_below (own_keep O0 hba) (a:=⟨w.heap.size,1,none⟩) (by omega) (.slice E1 x.dec.length e1)
 have NO2:=ownsRow_setCell_below (own_keep O2 hba) (a:=⟨w.heap.size,1,none⟩) (by omega) (.slice E1 x.dec.length e1)
 have hsz:W2.heap.size≤(Wc.setCell ⟨w.heap.size,1,none⟩ (.slice E1 x.dec.length e1)).heap.size:=by have:=hba.size;simpa using this
 have hlq:Below W2.heap.size w (Wc.setCell ⟨w.heap.size,1,none⟩ (.slice E1 x.dec.length e1))→True:=fun _=>trivial
 have WE:∃W,(Wc.setCell ⟨w.heap.size,1,none⟩ (.slice E1 x.dec.length e1))=W:=⟨_,rfl⟩
 have HM:=HIN.out W2.heap.size (w.heap.size+1) E1 e1 _ Bb B0.size (by omega) NO1
 clear NO1 O1 O0 O2 d0 X0 X1 hba B0 hlq HIN
 go_upto_region 4 with (fail)
 obtain ⟨W3,hW⟩:=WE
 try rw [hW] at Bb Y0 Y1 hsz HM NO0 NO2 ⊢
 clear hW f0 g0 C1
 have O0:=NO0
 clear NO0
 have O2:=NO2
 clear NO2
 have X0:=Y0
 have X1:=Y1
 have B0:=Bb
 have zW2:=hsz
 have tW2:=s1
 clear Y0 Y1 Bb hsz s1
 have sW2:=s0
 clear s0
 have s0:=X0.lt
 have s1:=X1.lt
 have HO0:=Lib.hid O0
 have HO2:=Lib.hid O2
 have HX0:=Lib.hid X0
 have HX1:=Lib.hid X1
 have HB0:=Lib.hid B0
 have HMM:=Lib.hid HM
 have HE1:=Lib.hid (fun q (hq:blk E1=some q)=>show W2.heap.size≤q from by
  obtain ⟨vs,_,h2,_⟩:=HM.ex
  exact (own_blk h2 hq).1)
 have hz3:w.heap.size+1 < W2.heap.size:=by omega
 have hz2:W2.heap.size≤W3.heap.size:=by omega
 have q1:=X0.cell (i:=1) rfl
 clear O0 O2 X0 X1 B0 HM s0 s1
 go_wp2_with fail
 go_loopw [22] (fun u wr=>∃i:Nat,i≤x.dec.length∧u=.int .i64 i∧MpsIn wr W2.heap.size (w.heap.size+1) E1 e1 x.dec∧W3.grownBy wr (blk E1)) (fun u _=>x.dec.length - (intOf u).toNat)
 case atStart=>exact ⟨0,Nat.zero_le _,rfl,HMM.out,grownR_refl _ _⟩
 case round=>
  obtain ⟨i,hi,rfl,hm,hg⟩:=hrel
  have hws:=hg.size
  have HW:=Lib.hid hg
  have n0:some w.heap.size≠blk E1:=fun e=>by have:=HE1.out _ e.symm;omega
  have n1:some (w.heap.size+1)≠blk E1:=fun e=>by have:=HE1.out _ e.symm;omega
  have HXr:=Lib.hid (HX0.out.grown hg n0)
  have HXs:=Lib.hid (HX1.out.grown hg n1)
  clear n0 n1
  by_cases hlt:i < x.dec.length
  ·obtain ⟨g,C,c,hE,hge,hgl,c0,c1,c2,f1,hC⟩:=hm.at hlt
   subst hE
   have HMi:=Lib.hid hm
   have PUT:=Lib.hid (fun (K:Option Addr) (k:Nat) (W:World) (h:MpsIn W W2.heap.size (w.heap.size+1) (some ⟨g,0,none⟩) e1 x.dec) hk hK hap=>h.put (C:=K) (c:=k) hlt hk hK hap)
   have CIi:=Lib.hid (CI.out i hlt)
   have HC:=Lib.hid hC
   have HIS:=Lib.hid (hm.is.at hlt)
   clear hm hg hC
   have hcap:x.dec[i].to.length≤1048576:=SZ.out i hlt
   generalize x.dec[i]=m at *
   have hne:¬g=wr.heap.size:=by omega
   have c0':wr.cell? ⟨g,0+i*3,none⟩=some (.int .i64 m.frm):=by rw [Nat.zero_add];exact c0
   have BA:Below wr.heap.size wr (wr.alloc (.cells #[.int .i64 m.frm,.slice C m.to.length c,.string m.tag] 63)):=(Below.refl _ _).alloc (Nat.le_refl _) _
   have XA:Box (wr.alloc (.cells #[.int .i64 m.frm,.slice C m.to.length c,.string m.tag] 63)) wr.heap.size 63 [.int .i64 m.frm,.slice C m.to.length c,.string m.tag]:=Box.new wr 63 [.int .i64 m.frm,.slice C m.to.length c,.string m.tag] rfl
   have WaE:∃Wa,(wr.alloc (.cells #[.int .i64 m.frm,.slice C m.to.length c,.string m.tag] 63))=Wa:=⟨_,rfl⟩
   go_upto_region 7 with (fail)
   obtain ⟨Wa,hWa⟩:=WaE
   try rw [hWa] at BA XA ⊢
   clear hWa c0 c1 c2 c0'
   have sa:=XA.lt
   have XRa:=HXr.out.below BA HXr.out.lt
   have sw:=XRa.lt
   have hgw:g < Wa.heap.size:=by omega
   have hga:g≠w.heap.size:=by omega
   have hgb:g≠wr.heap.size:=by omega
   have k1:=XRa.cell (i:=1) rfl
   have k2:=XA.cell (i:=1) rfl
   have SH:=Lib.hid (fun W' (hg':Wa.grownBy W' (some g))=>show W'.cell? ⟨w.heap.size,1,none⟩=some (.slice (some ⟨g,0,none⟩) x.dec.length e1)∧W'.cell? ⟨wr.heap.size,1,none⟩=some (.slice C m.to.length c)∧Wa.grownBy W' (some g) from ⟨(World.cell?_of_block (hg'.block _ sw (fun e=>hga (by injection e with e;exact e.symm)))).trans k1,(World.cell?_of_block (hg'.block _ sa (fun e=>hgb (by injection e with e;exact e.symm)))).trans k2,hg'⟩)
   have FRZ:=Lib.hid (MpsIn.below HMi.out BA)
   have TI:=Lib.hid (fun W (hb':Below Wa.heap.size Wa W) (hg':Wa.grownBy W (some g))=>(CIi.out C c W ((HC.out.below BA).below hb')).mono (R':=fun e' W'=>∃v,e'=.returned v∧(W'.cell? ⟨w.heap.size,1,none⟩=some (.slice (some ⟨g,0,none⟩) x.dec.length e1)∧W'.cell? ⟨wr.heap.size,1,none⟩=some (.slice C m.to.length c)∧Wa.grownBy W' (some g))∧(∃K k,v=.slice K m.to.length k∧W'.ownsRow W.heap.size 3 1 (.slice K m.to.length k) m.to.length (m.to.map (Value.int .i64))∧Below Wa.heap.size Wa W')) (fun e' W' ⟨K,k,he,g1,g2⟩=>⟨_,he,SH.out W' (grownR_below hg' g2),K,k,rfl,g1,hb'.trans (g2.mono hb'.size)⟩))
   have HBA:=Lib.hid BA
   clear k1 k2 BA
   go_wp2_with fail
   refine wp_region_held_drew (S:=fun W'=>W'.cell? ⟨w.heap.size,1,none⟩=some (.slice (some ⟨g,0,none⟩) x.dec.length e1)∧W'.cell? ⟨wr.heap.size,1,none⟩=some (.slice C m.to.length c)∧Wa.grownBy W' (some g)) (by kernel_rfl) (SH.out _ (grownR_drew (grownR_refl Wa _))) (fun hHeld=>?_)
   refine tK 0 27 ?_
   refine tK 1 28 ?_
   refine tK 2 29 ?_
   refine tK 3 30 ?_
   refine tK 4 31 ?_
   refine qE 5 32 (TI.out _ (Below.refl _ _).drew (grownR_drew (grownR_refl Wa _))) ?_
   clear hHeld
   rintro _ W5 hHeld ⟨K,k,rfl,hK,hb5⟩
   refine tK 6 33 ?_
   refine tK 7 34 ?_
   obtain ⟨g',C',c',hE',_,_,_,e1',_,f5',_⟩:=(FRZ.out.below hb5).at hlt
   obtain rfl:g=g':=by injection hE' with hE';injection hE'
   clear hE'
   refine anyH_unit (w':=W5.setCell ⟨g,i*3+1,none⟩ (.slice K m.to.length k)) (i:=8) none rfl rfl (by kernel_rfl) (by rfl) (by go_simp) (SH.out _ (gr_set (p:=⟨g,i*3+1,none⟩) (hHeld.2.2) _)) ?_
   try simp only [Act.put]
   refine wpAnyH_done (by kernel_rfl) ?_ _
   have hgr:=grownR_trans (grownR_below HW.out HBA.out) hHeld.2.2
   have hput:=PUT.out K k W5 (FRZ.out.below hb5) (own_le hK) (Sl.of_own hK) (fun _ q hq=>by
    have h1:Wa.heap.size≤q:=(own_blk hK hq).1
    exact ⟨by omega,by omega⟩)
   have HGR:=Lib.hid hgr
   have HPT:=Lib.hid hput
   clear hHeld SH TI FRZ e1' f5' hgr hput hK hb5 PUT HMi HBA XA XRa HXr HXs
   go_wp2_with fail
   go_roundw
   case rel=>exact ⟨i+1,by omega,by go_num,HPT.out,gr_set (p:=⟨g,i*3+1,none⟩) HGR.out _⟩
   case measure=>simp [intOf];omega
  ·obtain rfl:i=x.dec.length:=by omega
   have X0r:=HXr.out
   have c0:=X0r.cell (i:=0) rfl
   have c1:=X0r.cell (i:=1) rfl
   have c2:=X0r.cell (i:=2) rfl
   have X1r:=HXs.out
   have f0:=X1r.free 0
   have f1:=X1r.free 1
   have f2:=X1r.free 2
   have g0:=X1r.cell (i:=0) rfl
   have g1:=X1r.cell (i:=1) rfl
   have g2:=X1r.cell (i:=2) rfl
   have hwz:w.heap.size+1 < W2.heap.size:=hz3
   have MF:MpsIn (((wr.setCell ⟨w.heap.size+1,0,none⟩ (.slice E0 x.cls.length e0)).setCell ⟨w.heap.size+1,1,none⟩ (.slice E1 x.dec.length e1)).setCell ⟨w.heap.size+1,2,none⟩ (.slice E2 x.exc.length e2)) W2.heap.size (w.heap.size+1) E1 e1 x.dec:=((hm.off hwz ⟨w.heap.size+1,0,none⟩ rfl _).off hwz ⟨w.heap.size+1,1,none⟩ rfl _).off hwz ⟨w.heap.size+1,2,none⟩ rfl _
   have ZF:Box (((wr.setCell ⟨w.heap.size+1,0,none⟩ (.slice E0 x.cls.length e0)).setCell ⟨w.heap.size+1,1,none⟩ (.slice E1 x.dec.length e1)).setCell ⟨w.heap.size+1,2,none⟩ (.slice E2 x.exc.length e2)) (w.heap.size+1) 28 [.slice E0 x.cls.length e0,.slice E1 x.dec.length e1,.slice E2 x.exc.length e2]:=((X1r.set 0 _).set 1 _).set 2 _
   have GF:wr.grownBy (((wr.setCell ⟨w.heap.size+1,0,none⟩ (.slice E0 x.cls.length e0)).setCell ⟨w.heap.size+1,1,none⟩ (.slice E1 x.dec.length e1)).setCell ⟨w.heap.size+1,2,none⟩ (.slice E2 x.exc.length e2)) (some (w.heap.size+1)):=gr_set (p:=⟨w.heap.size+1,2,none⟩) (gr_set (p:=⟨w.heap.size+1,1,none⟩) (grown_set wr ⟨w.heap.size+1,0,none⟩ _) _) _
   have WFE:∃Wf,(((wr.setCell ⟨w.heap.size+1,0,none⟩ (.slice E0 x.cls.length e0)).setCell ⟨w.heap.size+1,1,none⟩ (.slice E1 x.dec.length e1)).setCell ⟨w.heap.size+1,2,none⟩ (.slice E2 x.exc.length e2))=Wf:=⟨_,rfl⟩
   have HHG:=Lib.hid hg
   clear hm hg X0r X1r HXr HXs
   go_wp2_with fail
   obtain ⟨Wf,hWf⟩:=WFE
   try rw [hWf] at MF ZF GF ⊢
   clear hWf
   have z0:=ZF.cell (i:=0) rfl
   have z1':=ZF.cell (i:=1) rfl
   have z2:=ZF.cell (i:=2) rfl
   (try simp only [Exit.inBlock,Exit.then])
   refine bodyPost_ret (results_nrm rfl _ _ (b:=w.heap.size+1) (v0:=.slice E0 x.cls.length e0) (v1:=.slice E1 x.dec.length e1) (v2:=.slice E2 x.exc.length e2) rfl z0 z1' z2) rfl ?_
   have hcf:Chg (fun q=>blk E1=some q∨q=w.heap.size+1) W3 Wf:=(Chg.of_grown HHG.out (fun q e=>.inl e)).trans (Chg.of_grown GF (fun q e=>.inr (by injection e with e;exact e.symm)))
   have h0:Spans Wf E0 x.cls:=hcf.sl (Sl.of_own HO0.out) (fun _ q hq hS=>by
    have b1:=Q0.out q hq
    rcases hS with g | g
    ·have:=HE1.out q g;omega
    ·omega)
   have h2:Rgs Wf E2 x.exc:=hcf.sl (Sl.of_own HO2.out) (fun _ q hq hS=>by
    have b1:=Q2.out q hq
    rcases hS with g | g
    ·have:=HE1.out q g;omega
    ·omega)
   have bel:Below w.heap.size w Wf:=HB0.out.trans (hcf.below (n:=w.heap.size) (by omega) (fun k hk=>by
    rcases hk with g | g
    ·have:=HE1.out k g;omega
    ·omega))
   exact ⟨E0,e0,E1,e1,E2,e2,rfl,HFIN.out E0 E1 E2 Wf h0 MF.is h2,bel⟩
def RetCol (c:Col) (w:World) (e:Ending) (w':World):Prop:=∃A a B b,e=.returned (colV A c.ents.length a B c.grps.length b c)∧ColAt w' A c.ents.length B c.grps.length c∧Below w.heap.size w w'
theorem results_col {fn:Func} (hr:fn.results=#[.cell 2 32]) (tmps:Array Value) (w:World) {b:Nat} {v0 v1 v2 v3 v4:Value} (ha:tmps.getD 2 undef=.pointer (some ⟨b,0,none⟩))
  (c0:w.cell? ⟨b,0,none⟩=some v0) (c1:w.cell? ⟨b,1,none⟩=some v1) (c2:w.cell? ⟨b,2,none⟩=some v2) (c3:w.cell? ⟨b,3,none⟩=some v3) (c4:w.cell? ⟨b,4,none⟩=some v4) :
  (results fn tmps).run Tryz.prog w=.ok (.agg #[v0,v1,v2,v3,v4]) w:=by
 unfold results
 rw [hr]
 simp only [ha,List.mapM_toArray,List.mapM_cons,List.mapM_nil,asAddr]
 go_simp
theorem copiedCol_any (A:Option Addr) (n a:Nat) (B:Option Addr) (m b:Nat) (c:Col) (w:World) (hC:ColAt w A n B m c) (hz:ColSz c) :
  Calls Tryz.prog 48 #[colV A n a B m b c] w (RetCol c w):=by
 obtain ⟨hE,hG,rfl,rfl,hs⟩:=hC
 unfold colV RetCol
 unfold colV
 have B0:Below w.heap.size w ((w.alloc (.cells #[.slice A c.ents.length a,.slice B c.grps.length b,.int .i64 c.base,.int .i64 c.second,.int .i64 c.third] 32)).alloc (.cells #[.slice none 0 0,.slice none 0 0,.int .i64 0,.int .i64 0,.int .i64 0] 32)):=((Below.refl _ _).alloc (Nat.le_refl _) _).alloc (by simp) _
 have X0:Box ((w.alloc (.cells #[.slice A c.ents.length a,.slice B c.grps.length b,.int .i64 c.base,.int .i64 c.second,.int .i64 c.third] 32)).alloc (.cells #[.slice none 0 0,.slice none 0 0,.int .i64 0,.int .i64 0,.int .i64 0] 32)) w.heap.size 32 [.slice A c.ents.length a,.slice B c.grps.length b,.int .i64 c.base,.int .i64 c.second,.int .i64 c.third]:=bx_alloc (Box.new w 32 [.slice A c.ents.length a,.slice B c.grps.length b,.int .i64 c.base,.int .i64 c.second,.int .i64 c.third] rfl) _
 have X1:Box ((w.alloc (.cells #[.slice A c.ents.length a,.slice B c.grps.length b,.int .i64 c.base,.int .i64 c.second,.int .i64 c.third] 32)).alloc (.cells #[.slice none 0 0,.slice none 0 0,.int .i64 0,.int .i64 0,.int .i64 0] 32)) (w.heap.size+1) 32 [.slice none 0 0,.slice none 0 0,.int .i64 0,.int .i64 0,.int .i64 0]:=Box.new _ _ _ (by simp)
 have W0E:∃W0,((w.alloc (.cells #[.slice A c.ents.length a,.slice B c.grps.length b,.int .i64 c.base,.int .i64 c.second,.int .i64 c.third] 32)).alloc (.cells #[.slice none 0 0,.slice none 0 0,.int .i64 0,.int .i64 0,.int .i64 0] 32))=W0:=⟨_,rfl⟩
 obtain ⟨cs1,hc1,hl1,h11,hin⟩:=ents_raw hE
 have z0:=hz.n
 have z1:=hz.m
 have C0:=Lib.hid (fun W (hb:Below w.heap.size w W)=>cloneGroup_raw B c.grps.length b (flatK Grp.cells c.grps) W (Sl.below hG hb) (flatK_len Grp.cells 3 (fun _=>rfl) c.grps) (grps_one _) (by omega))
 have C1:=Lib.hid (fun W (hb:Below w.heap.size w W)=>cloneEntry_raw A c.ents.length a cs1 W (Sl.below hc1 hb) hl1 h11 (by omega))
 have HIN:=Lib.hid hin
 have CI:=Lib.hid (fun i (hi:i < c.ents.length) C k W (hI:Ints W C c.ents[i].codes)=>cloneI_any C c.ents[i].codes.length k c.ents[i].codes W hI rfl (hz.e i hi).1)
 have CE:=Lib.hid (fun i (hi:i < c.ents.length) C k W (hI:Elts W C c.ents[i].elems)=>cloneE_any C c.ents[i].elems.length k c.ents[i].elems W hI rfl (hz.e i hi).2)
 have HFIN:=Lib.hid (fun A' B' W (h0:Ents W A' c.ents) (h1:Grps W B' c.grps)=>(⟨h0,h1,rfl,rfl,hs⟩:ColAt W A' c.ents.length B' c.grps.length c))
 have SZ:=Lib.hid (fun i (hi:i < c.ents.length)=>hz.e i hi)
 unfold RetOwnC at C0 C1
 unfold RetOwnI at CI
 unfold RetOwnE at CE
 clear hE hG hs hz hc1 hl1 h11 hin
 go_enter Tryz.func48,Tryz.ntmps48
 go_upto_region 1 with (fail)
 obtain ⟨W0,hW0⟩:=W0E
 try rw [hW0] at B0 X0 X1 ⊢
 clear hW0
 have s0:=X0.lt
 have s1:=X1.lt
 have d0:=X0.cell (i:=1) rfl
 go_wp2_with fail
 with_reducible refine (C0.out W0 B0).mono ?_
 rintro e Wa ⟨E1,e1,rfl,O1,hba⟩
 have f0:=(X0.below hba s0).free 1
 have g0:=(X0.below hba s0).cell (i:=1) rfl
 have Y0:Box (Wa.setCell ⟨w.heap.size,1,none⟩ (.slice E1 c.grps.length e1)) w.heap.size 32 [.slice A c.ents.length a,.slice E1 c.grps.length e1,.int .i64 c.base,.int .i64 c.second,.int .i64 c.third]:=(X0.below hba s0).set 1 _
 have Y1:Box (Wa.setCell ⟨w.heap.size,1,none⟩ (.slice E1 c.grps.length e1)) (w.heap.size+1) 32 [.slice none 0 0,.slice none 0 0,.int .i64 0,.int .i64 0,.int .i64 0]:=bx_ne (X1.below hba s1) _ (by simp) _
 have Bb:Below w.heap.size w (Wa.setCell ⟨w.heap.size,1,none⟩ (.slice E1 c.grps.length e1)):=(B0.trans (hba.mono B0.size)).setCell (Nat.le_refl _) _
 have NO1:=ownsRow_setCell_below O1 (a:=⟨w.heap.size,1,none⟩) s0 (.slice E1 c.grps.length e1)
 have hsz:W0.heap.size≤(Wa.setCell ⟨w.heap.size,1,none⟩ (.slice E1 c.grps.length e1)).heap.size:=by have:=hba.size;simpa using this
 have hlq:Below W0.heap.size w (Wa.setCell ⟨w.heap.size,1,none⟩ (.slice E1 c.grps.length e1))→True:=fun _=>trivial
 have WE:∃W,(Wa.setCell ⟨w.heap.size,1,none⟩ (.slice E1 c.grps.length e1))=W:=⟨_,rfl⟩
 clear O1 d0 X0 X1 hba B0 hlq
 go_upto_region 2 with (fail)
 obtain ⟨W1,hW⟩:=WE
 try rw [hW] at Bb Y0 Y1 hsz NO1 ⊢
 clear hW f0 g0 C0
 have O1:=NO1
 clear NO1
 have X0:=Y0
 have X1:=Y1
 have B0:=Bb
 have zW0:=hsz
 have tW0:=s1
 clear Y0 Y1 Bb hsz s1
 have sW0:=s0
 clear s0
 have s0:=X0.lt
 have s1:=X1.lt
 have Q1:=Lib.hid (fun q (hq:blk E1=some q)=>own_blk O1 hq)
 have d0:=X0.cell (i:=0) rfl
 go_wp2_with fail
 with_reducible refine (C1.out W1 B0).mono ?_
 rintro e Wb ⟨E0,e0,rfl,O0,hba⟩
 have f0:=(X0.below hba s0).free 0
 have g0:=(X0.below hba s0).cell (i:=0) rfl
 have Y0:Box (Wb.setCell ⟨w.heap.size,0,none⟩ (.slice E0 c.ents.length e0)) w.heap.size 32 [.slice E0 c.ents.length e0,.slice E1 c.grps.length e1,.int .i64 c.base,.int .i64 c.second,.int .i64 c.third]:=(X0.below hba s0).set 0 _
 have Y1:Box (Wb.setCell ⟨w.heap.size,0,none⟩ (.slice E0 c.ents.length e0)) (w.heap.size+1) 32 [.slice none 0 0,.slice none 0 0,.int .i64 0,.int .i64 0,.int .i64 0]:=bx_ne (X1.below hba s1) _ (by simp) _
 have Bb:Below w.heap.size w (Wb.setCell ⟨w.heap.size,0,none⟩ (.slice E0 c.ents.length e0)):=(B0.trans (hba.mono B0.size)).setCell (Nat.le_refl _) _
 have NO0:=ownsRow_setCell_below O0 (a:=⟨w.heap.size,0,none⟩) s0 (.slice E0 c.ents.length e0)
 have NO1:=ownsRow_setCell_below (own_keep O1 hba) (a:=⟨w.heap.size,0,none⟩) (by omega) (.slice E0 c.ents.length e0)
 have hsz:W1.heap.size≤(Wb.setCell ⟨w.heap.size,0,none⟩ (.slice E0 c.ents.length e0)).heap.size:=by have:=hba.size;simpa using this
 have hlq:Below W1.heap.size w (Wb.setCell ⟨w.heap.size,0,none⟩ (.slice E0 c.ents.length e0))→True:=fun _=>trivial
 have WE:∃W,(Wb.setCell ⟨w.heap.size,0,none⟩ (.slice E0 c.ents.length e0))=W:=⟨_,rfl⟩
 have HM:=HIN.out W1.heap.size (w.heap.size+1) E0 e0 _ Bb B0.size (by omega) NO0
 clear NO0 O0 O1 d0 X0 X1 hba B0 hlq HIN
 go_upto_region 3 with (fail)
 obtain ⟨W2,hW⟩:=WE
 try rw [hW] at Bb Y0 Y1 hsz HM NO1 ⊢
 clear hW f0 g0 C1
 have O1:=NO1
 clear NO1
 have X0:=Y0
 have X1:=Y1
 have B0:=Bb
 have zW1:=hsz
 have tW1:=s1
 clear Y0 Y1 Bb hsz s1
 have sW1:=s0
 clear s0
 have s0:=X0.lt
 have s1:=X1.lt
 have HO1:=Lib.hid O1
 have HX0:=Lib.hid X0
 have HX1:=Lib.hid X1
 have HB0:=Lib.hid B0
 have HMM:=Lib.hid HM
 have HE1:=Lib.hid (fun q (hq:blk E0=some q)=>show W1.heap.size≤q from by
  obtain ⟨vs,_,h2,_⟩:=HM.ex
  exact (own_blk h2 hq).1)
 have hz3:w.heap.size+1 < W1.heap.size:=by omega
 have hz2:W1.heap.size≤W2.heap.size:=by omega
 have q1:=X0.cell (i:=0) rfl
 clear O1 X0 X1 B0 HM s0 s1
 go_wp2_with fail
 go_loopw [16] (fun u wr=>∃i:Nat,i≤c.ents.length∧u=.int .i64 i∧EntsIn wr W1.heap.size (w.heap.size+1) E0 e0 c.ents∧W2.grownBy wr (blk E0)) (fun u _=>c.ents.length - (intOf u).toNat)
 case atStart=>exact ⟨0,Nat.zero_le _,rfl,HMM.out,grownR_refl _ _⟩
 case round=>
  obtain ⟨i,hi,rfl,hm,hg⟩:=hrel
  have hws:=hg.size
  have HW:=Lib.hid hg
  have n0:some w.heap.size≠blk E0:=fun e=>by have:=HE1.out _ e.symm;omega
  have n1:some (w.heap.size+1)≠blk E0:=fun e=>by have:=HE1.out _ e.symm;omega
  have HXr:=Lib.hid (HX0.out.grown hg n0)
  have HXs:=Lib.hid (HX1.out.grown hg n1)
  clear n0 n1
  by_cases hlt:i < c.ents.length
  ·obtain ⟨g,C,cc,E,ec,hEq,hge,hgl,c0,c1,f0,f1,hC,hEl⟩:=hm.at hlt
   subst hEq
   have HMi:=Lib.hid hm
   have PUT:=Lib.hid (fun (K:Option Addr) (k:Nat) (D:Option Addr) (d:Nat) (W:World) (h:EntsIn W W1.heap.size (w.heap.size+1) (some ⟨g,0,none⟩) e0 c.ents) hK hap hD hape=>h.put (C:=K) (c:=k) (E:=D) (d:=d) hlt hK hap hD hape)
   have CIi:=Lib.hid (CI.out i hlt)
   have CEi:=Lib.hid (CE.out i hlt)
   have HC:=Lib.hid hC
   have HEl:=Lib.hid hEl
   clear hm hg hC hEl
   have hcap:=SZ.out i hlt
   generalize c.ents[i]=en at *
   obtain ⟨cd,el⟩:=en
   dsimp only at *
   have hne:¬g=wr.heap.size:=by omega
   have c0':wr.cell? ⟨g,0+i*2,none⟩=some (.slice C cd.length cc):=by rw [Nat.zero_add];exact c0
   have BA:Below wr.heap.size wr (wr.alloc (.cells #[.slice C cd.length cc,.slice E el.length ec] 105)):=(Below.refl _ _).alloc (Nat.le_refl _) _
   have XA:Box (wr.alloc (.cells #[.slice C cd.length cc,.slice E el.length ec] 105)) wr.heap.size 105 [.slice C cd.length cc,.slice E el.length ec]:=Box.new wr 105 [.slice C cd.length cc,.slice E el.length ec] rfl
   have WaE:∃Wa,(wr.alloc (.cells #[.slice C cd.length cc,.slice E el.length ec] 105))=Wa:=⟨_,rfl⟩
   go_upto_region 6 with (fail)
   obtain ⟨Wa,hWa⟩:=WaE
   try rw [hWa] at BA XA ⊢
   clear hWa c0 c1 c0'
   have sa:=XA.lt
   have XRa:=HXr.out.below BA HXr.out.lt
   have sw:=XRa.lt
   have hgw:g < Wa.heap.size:=by omega
   have hga:g≠w.heap.size:=by omega
   have hgb:g≠wr.heap.size:=by omega
   have k1:=XRa.cell (i:=0) rfl
   have k2:=XA.cell (i:=0) rfl
   have k3:=XA.cell (i:=1) rfl
   have SH:=Lib.hid (fun W' (hg':Wa.grownBy W' (some g))=>show W'.cell? ⟨w.heap.size,0,none⟩=some (.slice (some ⟨g,0,none⟩) c.ents.length e0)∧W'.cell? ⟨wr.heap.size,0,none⟩=some (.slice C cd.length cc)∧W'.cell? ⟨wr.heap.size,1,none⟩=some (.slice E el.length ec)∧Wa.grownBy W' (some g) from ⟨(World.cell?_of_block (hg'.block _ sw (fun e=>hga (by injection e with e;exact e.symm)))).trans k1,(World.cell?_of_block (hg'.block _ sa (fun e=>hgb (by injection e with e;exact e.symm)))).trans k2,(World.cell?_of_block (hg'.block _ sa (fun e=>hgb (by injection e with e;exact e.symm)))).trans k3,hg'⟩)
   have FRZ:=Lib.hid (EntsIn.below HMi.out BA)
   have TI:=Lib.hid (fun W (hb':Below Wa.heap.size Wa W) (hg':Wa.grownBy W (some g))=>(CIi.out C cc W ((HC.out.below BA).below hb')).mono (R':=fun e' W'=>∃v,e'=.returned v∧(W'.cell? ⟨w.heap.size,0,none⟩=some (.slice (some ⟨g,0,none⟩) c.ents.length e0)∧W'.cell? ⟨wr.heap.size,0,none⟩=some (.slice C cd.length cc)∧W'.cell? ⟨wr.heap.size,1,none⟩=some (.slice E el.length ec)∧Wa.grownBy W' (some g))∧(∃K k,v=.slice K cd.length k∧W'.ownsRow Wa.heap.size 3 1 (.slice K cd.length k) cd.length (cd.map (Value.int .i64))∧Below Wa.heap.size Wa W')) (fun e' W' ⟨K,k,he,g1,g2⟩=>⟨_,he,SH.out W' (grownR_below hg' g2),K,k,rfl,own_mono g1 hb'.size,hb'.trans (g2.mono hb'.size)⟩))
   have TE:=Lib.hid (fun W (hb':Below Wa.heap.size Wa W) (hg':Wa.grownBy W (some g))=>(CEi.out E ec W ((HEl.out.below BA).below hb')).mono (R':=fun e' W'=>∃v,e'=.returned v∧(W'.cell? ⟨w.heap.size,0,none⟩=some (.slice (some ⟨g,0,none⟩) c.ents.length e0)∧W'.cell? ⟨wr.heap.size,0,none⟩=some (.slice C cd.length cc)∧W'.cell? ⟨wr.heap.size,1,none⟩=some (.slice E el.length ec)∧Wa.grownBy W' (some g))∧(∃K k,v=.slice K el.length k∧W'.ownsRow Wa.heap.size 112 4 (.slice K el.length k) el.length (flatK Elt.cells el)∧Below Wa.heap.size Wa W'∧Below W.heap.size W W')) (fun e' W' ⟨K,k,he,g1,g2⟩=>⟨_,he,SH.out W' (grownR_below hg' g2),K,k,rfl,own_mono g1 hb'.size,hb'.trans (g2.mono hb'.size),g2⟩))
   have HBA:=Lib.hid BA
   clear k1 k2 k3 BA
   go_wp2_with fail
   refine wp_region_held_drew (S:=fun W'=>W'.cell? ⟨w.heap.size,0,none⟩=some (.slice (some ⟨g,0,none⟩) c.ents.length e0)∧W'.cell? ⟨wr.heap.size,0,none⟩=some (.slice C cd.length cc)∧W'.cell? ⟨wr.heap.size,1,none⟩=some (.slice E el.length ec)∧Wa.grownBy W' (some g)) (by kernel_rfl) (SH.out _ (grownR_drew (grownR_refl Wa _))) (fun hHeld=>?_)
   refine tK 0 21 ?_
   refine tK 1 22 ?_
   refine tK 2 23 ?_
   refine tK 3 24 ?_
   refine tK 4 25 ?_
   refine tK 6 27 ?_
   refine tK 7 28 ?_
   refine qE 5 26 (TI.out _ (Below.refl _ _).drew (grownR_drew (grownR_refl Wa _))) ?_
   clear hHeld
   rintro _ W5 hHeld ⟨K,k,rfl,hK,hb5⟩
   refine qE 8 29 (TE.out _ hb5 hHeld.2.2.2) ?_
   clear hHeld
   rintro _ W6 hHeld ⟨D,dd,rfl,hD,hb6,hb56⟩
   refine tK 9 30 ?_
   refine tK 10 31 ?_
   obtain ⟨g',_,_,_,_,hE',_,_,e0',e1',f0',f1',_⟩:=(FRZ.out.below hb6).at hlt
   obtain rfl:g=g':=by injection hE' with hE';injection hE'
   clear hE'
   have g1':(W6.setCell ⟨g,i*2,none⟩ (.slice K cd.length k)).frozen? ⟨g,i*2+1,none⟩=false:=by simpa using f1'
   refine anyH_unit (w':=(W6.setCell ⟨g,i*2,none⟩ (.slice K cd.length k)).setCell ⟨g,i*2+1,none⟩ (.slice D el.length dd)) (i:=11) none rfl rfl (by kernel_rfl) (by rfl) (by go_simp) (SH.out _ (gr_set (p:=⟨g,i*2+1,none⟩) (gr_set (p:=⟨g,i*2,none⟩) (hHeld.2.2.2) _) _)) ?_
   try simp only [Act.put]
   refine wpAnyH_done (by kernel_rfl) ?_ _
   have hgr:=grownR_trans (grownR_below HW.out HBA.out) hHeld.2.2.2
   have hput:=PUT.out K k D dd W6 (FRZ.out.below hb6) (Ints.below (Sl.of_own hK) hb56) (fun _ q hq=>by
    have h1:=(own_blk hK hq).1
    exact ⟨by omega,by omega⟩) (Sl.of_own hD) (fun _ q hq=>by
    have h1:=(own_blk hD hq).1
    exact ⟨by omega,by omega⟩)
   have HGR:=Lib.hid hgr
   have HPT:=Lib.hid hput
   clear hHeld SH TI TE FRZ e0' e1' f0' f1' g1' hgr hput hK hD hb5 hb6 hb56 PUT HMi HBA XA XRa HXr HXs
   go_wp2_with fail
   go_roundw
   case rel=>exact ⟨i+1,by omega,by go_num,HPT.out,gr_set (p:=⟨g,i*2+1,none⟩) (gr_set (p:=⟨g,i*2,none⟩) HGR.out _) _⟩
   case measure=>simp [intOf];omega
  ·obtain rfl:i=c.ents.length:=by omega
   have X0r:=HXr.out
   have c0:=X0r.cell (i:=0) rfl
   have c1:=X0r.cell (i:=1) rfl
   have c2:=X0r.cell (i:=2) rfl
   have c3:=X0r.cell (i:=3) rfl
   have c4:=X0r.cell (i:=4) rfl
   have X1r:=HXs.out
   have f0:=X1r.free 0
   have f1:=X1r.free 1
   have f2:=X1r.free 2
   have f3:=X1r.free 3
   have f4:=X1r.free 4
   have g0:=X1r.cell (i:=0) rfl
   have g1:=X1r.cell (i:=1) rfl
   have g2:=X1r.cell (i:=2) rfl
   have g3:=X1r.cell (i:=3) rfl
   have g4:=X1r.cell (i:=4) rfl
   have hwz:w.heap.size+1 < W1.heap.size:=hz3
   have MF:EntsIn (((((wr.setCell ⟨w.heap.size+1,0,none⟩ (.slice E0 c.ents.length e0)).setCell ⟨w.heap.size+1,1,none⟩ (.slice E1 c.grps.length e1)).setCell ⟨w.heap.size+1,2,none⟩ (.int .i64 c.base)).setCell ⟨w.heap.size+1,3,none⟩ (.int .i64 c.second)).setCell ⟨w.heap.size+1,4,none⟩ (.int .i64 c.third)) W1.heap.size (w.heap.size+1) E0 e0 c.ents:=((((hm.off hwz ⟨w.heap.size+1,0,none⟩ rfl _).off hwz ⟨w.heap.size+1,1,none⟩ rfl _).off hwz ⟨w.heap.size+1,2,none⟩ rfl _).off hwz ⟨w.heap.size+1,3,none⟩ rfl _).off hwz ⟨w.heap.size+1,4,none⟩ rfl _
   have ZF:Box (((((wr.setCell ⟨w.heap.size+1,0,none⟩ (.slice E0 c.ents.length e0)).setCell ⟨w.heap.size+1,1,none⟩ (.slice E1 c.grps.length e1)).setCell ⟨w.heap.size+1,2,none⟩ (.int .i64 c.base)).setCell ⟨w.heap.size+1,3,none⟩ (.int .i64 c.second)).setCell ⟨w.heap.size+1,4,none⟩ (.int .i64 c.third)) (w.heap.size+1) 32 [.slice E0 c.ents.length e0,.slice E1 c.grps.length e1,.int .i64 c.base,.int .i64 c.second,.int .i64 c.third]:=((((X1r.set 0 _).set 1 _).set 2 _).set 3 _).set 4 _
   have GF:wr.grownBy (((((wr.setCell ⟨w.heap.size+1,0,none⟩ (.slice E0 c.ents.length e0)).setCell ⟨w.heap.size+1,1,none⟩ (.slice E1 c.grps.length e1)).setCell ⟨w.heap.size+1,2,none⟩ (.int .i64 c.base)).setCell ⟨w.heap.size+1,3,none⟩ (.int .i64 c.second)).setCell ⟨w.heap.size+1,4,none⟩ (.int .i64 c.third)) (some (w.heap.size+1)):=gr_set (p:=⟨w.heap.size+1,4,none⟩) (gr_set (p:=⟨w.heap.size+1,3,none⟩) (gr_set (p:=⟨w.heap.size+1,2,none⟩) (gr_set (p:=⟨w.heap.size+1,1,none⟩) (grown_set wr ⟨w.heap.size+1,0,none⟩ _) _) _) _) _
   have WFE:∃Wf,(((((wr.setCell ⟨w.heap.size+1,0,none⟩ (.slice E0 c.ents.length e0)).setCell ⟨w.heap.size+1,1,none⟩ (.slice E1 c.grps.length e1)).setCell ⟨w.heap.size+1,2,none⟩ (.int .i64 c.base)).setCell ⟨w.heap.size+1,3,none⟩ (.int .i64 c.second)).setCell ⟨w.heap.size+1,4,none⟩ (.int .i64 c.third))=Wf:=⟨_,rfl⟩
   have HHG:=Lib.hid hg
   clear hm hg X0r X1r HXr HXs
   go_wp2_with fail
   obtain ⟨Wf,hWf⟩:=WFE
   try rw [hWf] at MF ZF GF ⊢
   clear hWf
   have z0:=ZF.cell (i:=0) rfl
   have z1':=ZF.cell (i:=1) rfl
   have z2:=ZF.cell (i:=2) rfl
   have z3:=ZF.cell (i:=3) rfl
   have z4:=ZF.cell (i:=4) rfl
   (try simp only [Exit.inBlock,Exit.then])
   refine bodyPost_ret (results_col rfl _ _ (b:=w.heap.size+1) rfl z0 z1' z2 z3 z4) rfl ?_
   have hcf:Chg (fun q=>blk E0=some q∨q=w.heap.size+1) W2 Wf:=(Chg.of_grown HHG.out (fun q e=>.inl e)).trans (Chg.of_grown GF (fun q e=>.inr (by injection e with e;exact e.symm)))
   have h1:Grps Wf E1 c.grps:=hcf.sl (Sl.of_own HO1.out) (fun _ q hq hS=>by
    have b1:=Q1.out q hq
    rcases hS with g | g
    ·have:=HE1.out q g;omega
    ·omega)
   have bel:Below w.heap.size w Wf:=HB0.out.trans (hcf.below (n:=w.heap.size) (by omega) (fun k hk=>by
    rcases hk with g | g
    ·have:=HE1.out k g;omega
    ·omega))
   exact ⟨E0,e0,E1,e1,rfl,HFIN.out E0 E1 Wf MF.is h1,bel⟩
end Go.Proofs.YtijgbonhjcblcaaGreatDoor
namespace Go.Proofs.YtijgbonhjcblcaaGreatDoor
open Go.RowKit Go.Maps Go.WideMaps Srl
section
variable {P:Program} {ops:Array Oper} {Q:Exit→Act→World→Prop} {md:Region.Mode} {S:World→Prop}
def StepH (P:Program) (md:Region.Mode) (ops:Array Oper) (Q:Exit→Act→World→Prop) (S:World→Prop) (fuel:Nat) (listed:Array Bool) (i:Nat) (oi:Oper) (a:Act) (w:World):Prop:=
 ∀K:Act→World→Prop,Shut (∀a w,S w→(S w→wpAnyH P md ops Q S fuel (listed.setIfInBounds i true) a w)→K a w)→Oper.wp P oi a w K Q
theorem stepH_callE {R:Value→World→Prop} {i:Nat} {oi:Oper} {fuel:Nat} {listed:Array Bool} {a:Act} {w:World} (d:Option Tmp) {f:FuncId} {args:Array Value} (hd:oi.dst=d) (he:(execOp a.eval oi).run P w=.ok (.enter f args) w)
  (hc:Calls P f args w (fun e w'=>∃v,e=.returned v∧S w'∧R v w'))
  (h:∀v w',S w'→R v w'→wpAnyH P md ops Q S fuel (listed.setIfInBounds i true) (a.put d v) w'):StepH P md ops Q S fuel listed i oi a w:=by
 subst hd
 intro K hK
 unfold Oper.wp
 rw [he]
 simp only [Oper.upon]
 refine hc.mono ?_
 rintro e w' ⟨v,rfl,hS',hR'⟩
 exact hK.out _ _ hS' (fun hh=>h v w' hh hR')
theorem stepH_val {i:Nat} {oi:Oper} {fuel:Nat} {listed:Array Bool} {a:Act} {w w':World} {v:Value} (d:Option Tmp) (hd:oi.dst=d) (he:(execOp a.eval oi).run P w=.ok (.value v) w') (hS:S w')
  (h:wpAnyH P md ops Q S fuel (listed.setIfInBounds i true) (a.put d v) w'):StepH P md ops Q S fuel listed i oi a w:=by
 subst hd
 intro K hK
 unfold Oper.wp
 rw [he]
 simp only [Oper.upon]
 exact hK.out _ _ hS (fun _=>h)
theorem anyH_of2 {i j:Nat} {oi oj:Oper} {fuel:Nat} {listed:Array Bool} {a:Act} {w:World} (hi:ops[i]?=some oi) (hj:ops[j]?=some oj) (hr:Region.ready md ops listed=[i,j])
  (hwi:Region.wanted oi (yielded ops a.tmps)=true) (hwj:Region.wanted oj (yielded ops a.tmps)=true) (Hi:StepH P md ops Q S fuel listed i oi a w) (Hj:StepH P md ops Q S fuel listed j oj a w):wpAnyH P md ops Q S (fuel+1) listed a w:=by
 refine wpAnyH_ready hr (by simp) (AllReadyH.cons hi (fun K hK=>?_) (AllReadyH.cons hj (fun K hK=>?_) AllReadyH.nil))
 ·rw [if_pos hwi];exact Hi K hK
 ·rw [if_pos hwj];exact Hj K hK
end
def newErr (x:Nrm) (c:Col) (o:Opt):Int:=if nErr x≠0 then nErr x else if colErr c≠0 then colErr c else optErr o
def RetNew (x:Nrm) (c:Col) (o:Opt) (w:World) (e:Ending) (w':World):Prop:=
 Below w.heap.size w w'∧((newErr x c o≠0∧e=.returned (.tuple #[.pointer none,.int .i64 (newErr x c o)]))∨(newErr x c o=0∧∃l V mb,e=.returned (.tuple #[.pointer (some ⟨l,0,none⟩),.int .i64 0])∧Lst w' l w.heap.size V mb none 0 0 x c o (fun _=>none) []))
theorem new_lst {w0:World} {bs mb:Nat} {V:LsV} {x:Nrm} {c:Col} {o:Opt} (hbs:bs≤w0.heap.size) (hbm:bs≤mb) (hN:NrmAt w0 V.A0 x.cls.length V.A1 x.dec.length V.A2 x.exc.length x) (hC:ColAt w0 V.C c.ents.length V.B c.grps.length c) (hL:Laid w0)
  (hm:MapC Tryz.prog 3 ikey iok w0 mb 0 (fun _=>none) 0) (hz:NrmSz x) (hcz:ColSz c) :
  Lst (w0.alloc (.cells (lsC V x c o mb none 0 0).toArray 92)) w0.heap.size bs V mb none 0 0 x c o (fun _=>none) [] where
 box:=Box.new w0 92 _ rfl
 map:=hm.below ((Below.refl _ _).alloc (Nat.le_refl _) _)
 row:=World.ownsRow_nil _ _ _ _
 set:=⟨w0,hbs,Nat.le_refl _,fun o=>hm.is.nocell o,hN,hC,hL,Chg.of_below ((Below.refl _ _).alloc (Nat.le_refl _) _),fun q hq=>by cases hq⟩
 lol:=hbs
 lom:=hbm
 nlm:=fun e=>by have:=hm.lt;omega
 nlo:=fun e=>by cases e
 nmo:=fun e=>by cases e
 item:=fun p hp=>by cases hp
 gone:=fun _ _ _=>rfl
 srt:=srt_nil
 ok:=fun p hp=>by cases hp
 nz:=hz
 cz:=hcz
 len:=Nat.zero_le _
theorem new_any (A0:Option Addr) (k0:Nat) (A1:Option Addr) (k1:Nat) (A2:Option Addr) (k2:Nat) (x:Nrm) (C:Option Addr) (a:Nat) (B:Option Addr) (b:Nat) (c:Col) (o:Opt) (w:World) (hN:NrmAt w A0 x.cls.length A1 x.dec.length A2 x.exc.length x) (hz:NrmSz x) (hC:ColAt w C c.ents.length B c.grps.length c) (hcz:ColSz c) (hL:Laid w) :
  Calls Tryz.prog 17 #[.agg #[.slice A0 x.cls.length k0,.slice A1 x.dec.length k1,.slice A2 x.exc.length k2],.agg #[.slice C c.ents.length a,.slice B c.grps.length b,.int .i64 c.base,.int .i64 c.second,.int .i64 c.third],.agg #[.int .i64 o.st,.int .i64 o.va,.bool o.bk,.bool o.idn]] w (RetNew x c o w):=by
 have B00:Below w.heap.size w (((w.alloc (.cells #[.slice A0 x.cls.length k0,.slice A1 x.dec.length k1,.slice A2 x.exc.length k2] 28)).alloc (.cells #[.slice C c.ents.length a,.slice B c.grps.length b,.int .i64 c.base,.int .i64 c.second,.int .i64 c.third] 32)).alloc (.cells #[.int .i64 o.st,.int .i64 o.va,.bool o.bk,.bool o.idn] 34)):=(((Below.refl _ _).alloc (Nat.le_refl _) _).alloc (by simp) _).alloc (by simp <;> omega) _
 have X0:Box (((w.alloc (.cells #[.slice A0 x.cls.length k0,.slice A1 x.dec.length k1,.slice A2 x.exc.length k2] 28)).alloc (.cells #[.slice C c.ents.length a,.slice B c.grps.length b,.int .i64 c.base,.int .i64 c.second,.int .i64 c.third] 32)).alloc (.cells #[.int .i64 o.st,.int .i64 o.va,.bool o.bk,.bool o.idn] 34)) w.heap.size 28 [.slice A0 x.cls.length k0,.slice A1 x.dec.length k1,.slice A2 x.exc.length k2]:=bx_alloc (bx_alloc (Box.new w 28 [.slice A0 x.cls.length k0,.slice A1 x.dec.length k1,.slice A2 x.exc.length k2] rfl) _) _
 have X1:Box (((w.alloc (.cells #[.slice A0 x.cls.length k0,.slice A1 x.dec.length k1,.slice A2 x.exc.length k2] 28)).alloc (.cells #[.slice C c.ents.length a,.slice B c.grps.length b,.int .i64 c.base,.int .i64 c.second,.int .i64 c.third] 32)).alloc (.cells #[.int .i64 o.st,.int .i64 o.va,.bool o.bk,.bool o.idn] 34)) (w.heap.size+1) 32 [.slice C c.ents.length a,.slice B c.grps.length b,.int .i64 c.base,.int .i64 c.second,.int .i64 c.third]:=bx_alloc (Box.new _ 32 [.slice C c.ents.length a,.slice B c.grps.length b,.int .i64 c.base,.int .i64 c.second,.int .i64 c.third] (by simp)) _
 have X2:Box (((w.alloc (.cells #[.slice A0 x.cls.length k0,.slice A1 x.dec.length k1,.slice A2 x.exc.length k2] 28)).alloc (.cells #[.slice C c.ents.length a,.slice B c.grps.length b,.int .i64 c.base,.int .i64 c.second,.int .i64 c.third] 32)).alloc (.cells #[.int .i64 o.st,.int .i64 o.va,.bool o.bk,.bool o.idn] 34)) (w.heap.size+1+1) 34 [.int .i64 o.st,.int .i64 o.va,.bool o.bk,.bool o.idn]:=Box.new _ _ _ (by simp)
 have W0E:∃W0,(((w.alloc (.cells #[.slice A0 x.cls.length k0,.slice A1 x.dec.length k1,.slice A2 x.exc.length k2] 28)).alloc (.cells #[.slice C c.ents.length a,.slice B c.grps.length b,.int .i64 c.base,.int .i64 c.second,.int .i64 c.third] 32)).alloc (.cells #[.int .i64 o.st,.int .i64 o.va,.bool o.bk,.bool o.idn] 34))=W0:=⟨_,rfl⟩
 have C1:=Lib.hid (fun W (hb:Below w.heap.size w W)=>dCheck_any A0 _ k0 A1 _ k1 A2 _ k2 x W (hN.below hb) hz (hL.below hb))
 have C2:=Lib.hid (fun W (hb:Below w.heap.size w W)=>ckColl_any C _ a B _ b c W (hC.below hb) hcz)
 have C3:=Lib.hid (fun W=>skCheck_any o W)
 have CN:=Lib.hid (fun W (hb:Below w.heap.size w W)=>copiedNorm_any A0 _ k0 A1 _ k1 A2 _ k2 x W (hN.below hb) hz)
 have CC:=Lib.hid (fun W (hb:Below w.heap.size w W)=>copiedCol_any C _ a B _ b c W (hC.below hb) hcz)
 have HL:=Lib.hid (fun W (hb:Below w.heap.size w W)=>hL.below hb)
 have HEND0:=Lib.hid (fun (W:World) (mb:Nat) (B0:Option Addr) (l0:Nat) (B1:Option Addr) (l1:Nat) (B2:Option Addr) (l2:Nat) (D:Option Addr) (d1:Nat) (E:Option Addr) (d2:Nat) (hbs:w.heap.size≤W.heap.size) (hbm:w.heap.size≤mb) (hb:Below w.heap.size w W) hN' hC' hm=>new_lst (w0:=W) (bs:=w.heap.size) (mb:=mb) (V:=⟨B0,l0,B1,l1,B2,l2,D,d1,E,d2⟩) (x:=x) (c:=c) (o:=o) hbs hbm hN' hC' (hL.below hb) hm hz hcz)
 have NE0:=Lib.hid (fun (h:nErr x≠0)=>show newErr x c o=nErr x by unfold newErr;rw [if_pos h])
 have NE1:=Lib.hid (fun (h1:nErr x=0) (h:colErr c≠0)=>show newErr x c o=colErr c by unfold newErr;rw [if_neg (fun q=>q h1),if_pos h])
 have NE2:=Lib.hid (fun (h1:nErr x=0) (h:colErr c=0)=>show newErr x c o=optErr o by unfold newErr;rw [if_neg (fun q=>q h1),if_neg (fun q=>q h)])
 unfold RetNrm at CN
 unfold RetCol at CC
 unfold colV at C2 CC
 unfold lsC at HEND0
 unfold RetNew
 generalize nErr x=e1 at *
 generalize colErr c=e2 at *
 generalize optErr o=e3 at *
 generalize newErr x c o=e0 at *
 clear hN hz hC hcz hL
 go_enter Tryz.func17,Tryz.ntmps17
 go_upto_region 1 with (fail)
 obtain ⟨W0,hW0⟩:=W0E
 try rw [hW0] at B00 X0 X1 X2 ⊢
 clear hW0
 have l0:=X0.lt
 have l1:=X1.lt
 have l2:=X2.lt
 have a0:=X0.cell (i:=0) rfl
 have a1:=X0.cell (i:=1) rfl
 have a2:=X0.cell (i:=2) rfl
 go_wp2_with fail
 with_reducible refine (C1.out W0 B00).mono ?_
 rintro e W1 ⟨rfl,hb1⟩
 have B01:=B00.trans (hb1.mono B00.size)
 clear a0 a1 a2 C1
 by_cases h1:e1=0
 rotate_left
 ·have q1:(e1 != 0)=true:=by simpa using h1
  obtain rfl:=NE0.out h1
  have HE:=Lib.hid h1
  clear NE0 NE1 NE2 h1
  go_wp2_with fail
  go_ret2
  exact ⟨B01,.inl ⟨HE.out,rfl⟩⟩
 have q1:(e1 != 0)=false:=by simpa using h1
 have HE1:=Lib.hid h1
 clear h1 NE0
 have b0:=(X1.below hb1 l1).cell (i:=0) rfl
 have b1:=(X1.below hb1 l1).cell (i:=1) rfl
 have b2:=(X1.below hb1 l1).cell (i:=2) rfl
 have b3:=(X1.below hb1 l1).cell (i:=3) rfl
 have b4:=(X1.below hb1 l1).cell (i:=4) rfl
 go_wp2_with fail
 with_reducible refine (C2.out W1 B01).mono ?_
 rintro e W2 ⟨rfl,hb2⟩
 have B02:=B01.trans (hb2.mono B01.size)
 have hb12:=hb1.trans (hb2.mono hb1.size)
 clear b0 b1 b2 b3 b4 C2 q1
 by_cases h2:e2=0
 rotate_left
 ·have q2:(e2 != 0)=true:=by simpa using h2
  obtain rfl:=NE1.out HE1.out h2
  have HE:=Lib.hid h2
  clear NE1 NE2 h2
  go_wp2_with fail
  go_ret2
  exact ⟨B02,.inl ⟨HE.out,rfl⟩⟩
 have q2:(e2 != 0)=false:=by simpa using h2
 have HE2:=Lib.hid h2
 clear h2 NE1
 have c0:=(X2.below hb12 l2).cell (i:=0) rfl
 have c1:=(X2.below hb12 l2).cell (i:=1) rfl
 have c2:=(X2.below hb12 l2).cell (i:=2) rfl
 have c3:=(X2.below hb12 l2).cell (i:=3) rfl
 go_wp2_with fail
 with_reducible refine (C3.out W2).mono ?_
 rintro e W3 ⟨rfl,hb3⟩
 have B03:=B02.trans (hb3.mono B02.size)
 have hb13:=hb12.trans (hb3.mono hb12.size)
 clear c0 c1 c2 c3 C3 q2
 have NE3:=Lib.hid (NE2.out HE1.out HE2.out)
 clear NE2
 by_cases h3:e3=0
 rotate_left
 ·have q3:(e3 != 0)=true:=by simpa using h3
  obtain rfl:=NE3.out
  have HE:=Lib.hid h3
  clear h3 NE3
  go_wp2_with fail
  go_ret2
  exact ⟨B03,.inl ⟨HE.out,rfl⟩⟩
 have q3:(e3 != 0)=false:=by simpa using h3
 have NE:=Lib.hid (show e0=0 by rw [NE3.out];exact h3)
 clear NE3
 have HEND:=Lib.hid (fun (W:World) (mb:Nat) (B0:Option Addr) (l0:Nat) (B1:Option Addr) (l1:Nat) (B2:Option Addr) (l2:Nat) (D:Option Addr) (d1:Nat) (E:Option Addr) (d2:Nat) (hb:Below W3.heap.size W3 W) (hbm:W3.heap.size≤mb) hN' hC' hm=>HEND0.out W mb B0 l0 B1 l1 B2 l2 D d1 E d2 (Nat.le_trans B03.size hb.size) (Nat.le_trans B03.size hbm) (B03.trans (hb.mono B03.size)) hN' hC' hm)
 clear HEND0
 have Y0:=X0.below hb13 l0
 have Y1:=X1.below hb13 l1
 have Y2:=X2.below hb13 l2
 have m0:=Y0.lt
 have m1:=Y1.lt
 have m2:=Y2.lt
 have SH:=Lib.hid (fun W' (hb':Below W3.heap.size W3 W')=>show W'.cell? ⟨w.heap.size,0,none⟩=some (.slice A0 x.cls.length k0)∧W'.cell? ⟨w.heap.size,1,none⟩=some (.slice A1 x.dec.length k1)∧W'.cell? ⟨w.heap.size,2,none⟩=some (.slice A2 x.exc.length k2)∧W'.cell? ⟨w.heap.size+1,0,none⟩=some (.slice C c.ents.length a)∧W'.cell? ⟨w.heap.size+1,1,none⟩=some (.slice B c.grps.length b)∧W'.cell? ⟨w.heap.size+1,2,none⟩=some (.int .i64 c.base)∧W'.cell? ⟨w.heap.size+1,3,none⟩=some (.int .i64 c.second)∧W'.cell? ⟨w.heap.size+1,4,none⟩=some (.int .i64 c.third)∧W'.cell? ⟨w.heap.size+1+1,0,none⟩=some (.int .i64 o.st)∧W'.cell? ⟨w.heap.size+1+1,1,none⟩=some (.int .i64 o.va)∧W'.cell? ⟨w.heap.size+1+1,2,none⟩=some (.bool o.bk)∧W'.cell? ⟨w.heap.size+1+1,3,none⟩=some (.bool o.idn)∧Below W3.heap.size W3 W' from ⟨(Y0.below hb' m0).cell (i:=0) rfl,(Y0.below hb' m0).cell (i:=1) rfl,(Y0.below hb' m0).cell (i:=2) rfl,(Y1.below hb' m1).cell (i:=0) rfl,(Y1.below hb' m1).cell (i:=1) rfl,(Y1.below hb' m1).cell (i:=2) rfl,(Y1.below hb' m1).cell (i:=3) rfl,(Y1.below hb' m1).cell (i:=4) rfl,(Y2.below hb' m2).cell (i:=0) rfl,(Y2.below hb' m2).cell (i:=1) rfl,(Y2.below hb' m2).cell (i:=2) rfl,(Y2.below hb' m2).cell (i:=3) rfl,hb'⟩)
 have TN:=Lib.hid (fun W (hb':Below W3.heap.size W3 W)=>(CN.out W (B03.trans (hb'.mono B03.size))).mono (R':=fun e W'=>∃v,e=.returned v∧(W'.cell? ⟨w.heap.size,0,none⟩=some (.slice A0 x.cls.length k0)∧W'.cell? ⟨w.heap.size,1,none⟩=some (.slice A1 x.dec.length k1)∧W'.cell? ⟨w.heap.size,2,none⟩=some (.slice A2 x.exc.length k2)∧W'.cell? ⟨w.heap.size+1,0,none⟩=some (.slice C c.ents.length a)∧W'.cell? ⟨w.heap.size+1,1,none⟩=some (.slice B c.grps.length b)∧W'.cell? ⟨w.heap.size+1,2,none⟩=some (.int .i64 c.base)∧W'.cell? ⟨w.heap.size+1,3,none⟩=some (.int .i64 c.second)∧W'.cell? ⟨w.heap.size+1,4,none⟩=some (.int .i64 c.third)∧W'.cell? ⟨w.heap.size+1+1,0,none⟩=some (.int .i64 o.st)∧W'.cell? ⟨w.heap.size+1+1,1,none⟩=some (.int .i64 o.va)∧W'.cell? ⟨w.heap.size+1+1,2,none⟩=some (.bool o.bk)∧W'.cell? ⟨w.heap.size+1+1,3,none⟩=some (.bool o.idn)∧Below W3.heap.size W3 W')∧(∃B0 l0 B1 l1 B2 l2,v=.agg #[.slice B0 x.cls.length l0,.slice B1 x.dec.length l1,.slice B2 x.exc.length l2]∧NrmAt W' B0 x.cls.length B1 x.dec.length B2 x.exc.length x∧Below W.heap.size W W')) (fun e W' ⟨B0,l0,B1,l1,B2,l2,he,g1,g2⟩=>⟨_,he,SH.out W' (hb'.trans (g2.mono hb'.size)),B0,l0,B1,l1,B2,l2,rfl,g1,g2⟩))
 have TC:=Lib.hid (fun W (hb':Below W3.heap.size W3 W)=>(CC.out W (B03.trans (hb'.mono B03.size))).mono (R':=fun e W'=>∃v,e=.returned v∧(W'.cell? ⟨w.heap.size,0,none⟩=some (.slice A0 x.cls.length k0)∧W'.cell? ⟨w.heap.size,1,none⟩=some (.slice A1 x.dec.length k1)∧W'.cell? ⟨w.heap.size,2,none⟩=some (.slice A2 x.exc.length k2)∧W'.cell? ⟨w.heap.size+1,0,none⟩=some (.slice C c.ents.length a)∧W'.cell? ⟨w.heap.size+1,1,none⟩=some (.slice B c.grps.length b)∧W'.cell? ⟨w.heap.size+1,2,none⟩=some (.int .i64 c.base)∧W'.cell? ⟨w.heap.size+1,3,none⟩=some (.int .i64 c.second)∧W'.cell? ⟨w.heap.size+1,4,none⟩=some (.int .i64 c.third)∧W'.cell? ⟨w.heap.size+1+1,0,none⟩=some (.int .i64 o.st)∧W'.cell? ⟨w.heap.size+1+1,1,none⟩=some (.int .i64 o.va)∧W'.cell? ⟨w.heap.size+1+1,2,none⟩=some (.bool o.bk)∧W'.cell? ⟨w.heap.size+1+1,3,none⟩=some (.bool o.idn)∧Below W3.heap.size W3 W')∧(∃D d1 E d2,v=.agg #[.slice D c.ents.length d1,.slice E c.grps.length d2,.int .i64 c.base,.int .i64 c.second,.int .i64 c.third]∧ColAt W' D c.ents.length E c.grps.length c∧Below W.heap.size W W')) (fun e W' ⟨D,d1,E,d2,he,g1,g2⟩=>⟨_,he,SH.out W' (hb'.trans (g2.mono hb'.size)),D,d1,E,d2,rfl,g1,g2⟩))
 have B00':=B03
 clear CN CC
 have hmm:=@run_makeMap Tryz.prog
 go_upto_region 10 with (fail)
 refine wp_region_held_drew (S:=fun W'=>W'.cell? ⟨w.heap.size,0,none⟩=some (.slice A0 x.cls.length k0)∧W'.cell? ⟨w.heap.size,1,none⟩=some (.slice A1 x.dec.length k1)∧W'.cell? ⟨w.heap.size,2,none⟩=some (.slice A2 x.exc.length k2)∧W'.cell? ⟨w.heap.size+1,0,none⟩=some (.slice C c.ents.length a)∧W'.cell? ⟨w.heap.size+1,1,none⟩=some (.slice B c.grps.length b)∧W'.cell? ⟨w.heap.size+1,2,none⟩=some (.int .i64 c.base)∧W'.cell? ⟨w.heap.size+1,3,none⟩=some (.int .i64 c.second)∧W'.cell? ⟨w.heap.size+1,4,none⟩=some (.int .i64 c.third)∧W'.cell? ⟨w.heap.size+1+1,0,none⟩=some (.int .i64 o.st)∧W'.cell? ⟨w.heap.size+1+1,1,none⟩=some (.int .i64 o.va)∧W'.cell? ⟨w.heap.size+1+1,2,none⟩=some (.bool o.bk)∧W'.cell? ⟨w.heap.size+1+1,3,none⟩=some (.bool o.idn)∧Below W3.heap.size W3 W') (by kernel_rfl) (SH.out _ ((Below.refl _ _).drew)) (fun hHeld=>?_)
 obtain ⟨WD,hWD⟩:∃WD,W3.drew=WD:=⟨_,rfl⟩
 rw [hWD] at hHeld ⊢
 have HWD:=hHeld.2.2.2.2.2.2.2.2.2.2.2.2
 refine tK 0 26 ?_
 refine tK 2 28 ?_
 refine tK 4 30 ?_
 refine anyH_of2 (i:=1) (j:=5) rfl rfl (by kernel_rfl) (by rfl) (by rfl) (stepH_callE (some 27) rfl (by go_simp) (TN.out _ hHeld.2.2.2.2.2.2.2.2.2.2.2.2) ?_) (stepH_val (w':=WD.alloc (.map #[] 0)) (v:=.map (some WD.heap.size)) (some 31) rfl (by go_simp) (SH.out _ (HWD.alloc HWD.size (.map #[] 0))) ?_)
 ·rintro _ W4 hS6 ⟨B0,l0,B1,l1,B2,l2,rfl,hN4,hb4⟩
  clear hHeld
  have hHeld:=hS6
  clear hS6
  try simp only [Act.put,List.setIfInBounds_toArray,List.set_cons_zero,List.set_cons_succ]
  refine anyH_of2 (i:=3) (j:=5) rfl rfl (by kernel_rfl) (by rfl) (by rfl) (stepH_callE (some 29) rfl (by go_simp) (TC.out _ hHeld.2.2.2.2.2.2.2.2.2.2.2.2) ?_) (stepH_val (w':=W4.alloc (.map #[] 0)) (v:=.map (some W4.heap.size)) (some 31) rfl (by go_simp) (SH.out _ (hHeld.2.2.2.2.2.2.2.2.2.2.2.2.alloc hHeld.2.2.2.2.2.2.2.2.2.2.2.2.size _)) ?_)
  ·rintro _ W5 hS6 ⟨D,d1,E,d2,rfl,hC5,hb5⟩
   clear hHeld
   have hHeld:=hS6
   clear hS6
   try simp only [Act.put,List.setIfInBounds_toArray,List.set_cons_zero,List.set_cons_succ]
   have hz5:=hHeld.2.2.2.2.2.2.2.2.2.2.2.2.size
   have hS7:=hHeld.2.2.2.2.2.2.2.2.2.2.2.2.alloc hHeld.2.2.2.2.2.2.2.2.2.2.2.2.size (.map #[] 0)
   refine anyH_val (w':=W5.alloc (.map #[] 0)) (v:=.map (some W5.heap.size)) (i:=5) (some 31) rfl rfl (by kernel_rfl) (by rfl) (by go_simp) (SH.out _ hS7) ?_
   clear hHeld
   have hHeld:=SH.out _ hS7
   try simp only [Act.put,List.setIfInBounds_toArray,List.set_cons_zero,List.set_cons_succ]
   refine anyH_take (i:=6) (v:=.agg #[.slice B0 x.cls.length l0,.slice B1 x.dec.length l1,.slice B2 x.exc.length l2,.slice D c.ents.length d1,.slice E c.grps.length d2,.int .i64 c.base,.int .i64 c.second,.int .i64 c.third,.int .i64 o.st,.int .i64 o.va,.bool o.bk,.bool o.idn,.map (some W5.heap.size),.slice none 0 0]) (some 32) rfl rfl (by kernel_rfl) (by kernel_rfl) (by kernel_rfl) (fun _ _ _ h=>h) (by rfl) (by assumption) (by intro w hSw;go_simp) ?_
   try simp only [Act.put,List.setIfInBounds_toArray,List.set_cons_zero,List.set_cons_succ]
   have Sn:=SH.out ((W5.alloc (.map #[] 0)).alloc (.cells #[.slice B0 x.cls.length l0,.slice B1 x.dec.length l1,.slice B2 x.exc.length l2,.slice D c.ents.length d1,.slice E c.grps.length d2,.int .i64 c.base,.int .i64 c.second,.int .i64 c.third,.int .i64 o.st,.int .i64 o.va,.bool o.bk,.bool o.idn,.map (some W5.heap.size),.slice none 0 0] 92)) (hS7.alloc hS7.size _)
   refine anyH_val (w':=(W5.alloc (.map #[] 0)).alloc (.cells #[.slice B0 x.cls.length l0,.slice B1 x.dec.length l1,.slice B2 x.exc.length l2,.slice D c.ents.length d1,.slice E c.grps.length d2,.int .i64 c.base,.int .i64 c.second,.int .i64 c.third,.int .i64 o.st,.int .i64 o.va,.bool o.bk,.bool o.idn,.map (some W5.heap.size),.slice none 0 0] 92)) (v:=.pointer (some ⟨(W5.alloc (.map #[] 0)).heap.size,0,none⟩)) (i:=7) (some 33) rfl rfl (by kernel_rfl) (by rfl) (by go_simp) Sn ?_
   try simp only [Act.put,List.setIfInBounds_toArray,List.set_cons_zero,List.set_cons_succ]
   clear hHeld
   have hHeld:=Sn
   clear Sn
   refine tK 8 6 ?_
   refine tK 9 7 ?_
   refine wpAnyH_done (by kernel_rfl) ?_ _
   have hend:=HEND.out (W5.alloc (.map #[] 0)) W5.heap.size B0 l0 B1 l1 B2 l2 D d1 E d2 hS7 hz5 ((hN4.below hb5).below ((Below.refl _ _).alloc (Nat.le_refl _) _)) (hC5.below ((Below.refl _ _).alloc (Nat.le_refl _) _)) (MapC.made _ _ _ _ _)
   clear hHeld
   go_wp2_with fail
   go_ret2
   exact ⟨B03.trans ((hS7.alloc hS7.size _).mono B03.size),.inr ⟨NE.out,(W5.alloc (.map #[] 0)).heap.size,⟨B0,l0,B1,l1,B2,l2,D,d1,E,d2⟩,W5.heap.size,by first | rfl | simp,hend⟩⟩
  ·try simp only [Act.put,List.setIfInBounds_toArray,List.set_cons_zero,List.set_cons_succ]
   have hz5:=hHeld.2.2.2.2.2.2.2.2.2.2.2.2.size
   have hS7:=hHeld.2.2.2.2.2.2.2.2.2.2.2.2.alloc hHeld.2.2.2.2.2.2.2.2.2.2.2.2.size (.map #[] 0)
   have hS6:=SH.out _ hS7
   clear hHeld
   have hHeld:=hS6
   clear hS6
   refine qE 3 29 (TC.out _ hS7) ?_
   clear hHeld
   rintro _ W5 hHeld ⟨D,d1,E,d2,rfl,hC5,hb5⟩
   have hS8:=hHeld.2.2.2.2.2.2.2.2.2.2.2.2
   refine anyH_take (i:=6) (v:=.agg #[.slice B0 x.cls.length l0,.slice B1 x.dec.length l1,.slice B2 x.exc.length l2,.slice D c.ents.length d1,.slice E c.grps.length d2,.int .i64 c.base,.int .i64 c.second,.int .i64 c.third,.int .i64 o.st,.int .i64 o.va,.bool o.bk,.bool o.idn,.map (some W4.heap.size),.slice none 0 0]) (some 32) rfl rfl (by kernel_rfl) (by kernel_rfl) (by kernel_rfl) (fun _ _ _ h=>h) (by rfl) (by assumption) (by intro w hSw;go_simp) ?_
   try simp only [Act.put,List.setIfInBounds_toArray,List.set_cons_zero,List.set_cons_succ]
   have Sn:=SH.out (W5.alloc (.cells #[.slice B0 x.cls.length l0,.slice B1 x.dec.length l1,.slice B2 x.exc.length l2,.slice D c.ents.length d1,.slice E c.grps.length d2,.int .i64 c.base,.int .i64 c.second,.int .i64 c.third,.int .i64 o.st,.int .i64 o.va,.bool o.bk,.bool o.idn,.map (some W4.heap.size),.slice none 0 0] 92)) (hS8.alloc hS8.size _)
   refine anyH_val (w':=W5.alloc (.cells #[.slice B0 x.cls.length l0,.slice B1 x.dec.length l1,.slice B2 x.exc.length l2,.slice D c.ents.length d1,.slice E c.grps.length d2,.int .i64 c.base,.int .i64 c.second,.int .i64 c.third,.int .i64 o.st,.int .i64 o.va,.bool o.bk,.bool o.idn,.map (some W4.heap.size),.slice none 0 0] 92)) (v:=.pointer (some ⟨W5.heap.size,0,none⟩)) (i:=7) (some 33) rfl rfl (by kernel_rfl) (by rfl) (by go_simp) Sn ?_
   try simp only [Act.put,List.setIfInBounds_toArray,List.set_cons_zero,List.set_cons_succ]
   clear hHeld
   have hHeld:=Sn
   clear Sn
   refine tK 8 6 ?_
   refine tK 9 7 ?_
   refine wpAnyH_done (by kernel_rfl) ?_ _
   have hend:=HEND.out W5 W4.heap.size B0 l0 B1 l1 B2 l2 D d1 E d2 hS8 hz5 ((hN4.below ((Below.refl _ _).alloc (Nat.le_refl _) _)).below hb5) hC5 ((MapC.made _ _ _ _ _).below hb5)
   clear hHeld
   go_wp2_with fail
   go_ret2
   exact ⟨B03.trans ((hS8.alloc hS8.size _).mono B03.size),.inr ⟨NE.out,W5.heap.size,⟨B0,l0,B1,l1,B2,l2,D,d1,E,d2⟩,W4.heap.size,by first | rfl | simp,hend⟩⟩
 ·try simp only [Act.put,List.setIfInBounds_toArray,List.set_cons_zero,List.set_cons_succ]
  have hS7:=(HWD.alloc HWD.size (.map #[] 0))
  have hS6:=SH.out _ hS7
  clear hHeld
  have hHeld:=hS6
  clear hS6
  refine qE 1 27 (TN.out _ hS7) ?_
  clear hHeld
  rintro _ W4 hHeld ⟨B0,l0,B1,l1,B2,l2,rfl,hN4,hb4⟩
  refine qE 3 29 (TC.out _ hHeld.2.2.2.2.2.2.2.2.2.2.2.2) ?_
  clear hHeld
  rintro _ W5 hHeld ⟨D,d1,E,d2,rfl,hC5,hb5⟩
  have hS8:=hHeld.2.2.2.2.2.2.2.2.2.2.2.2
  refine anyH_take (i:=6) (v:=.agg #[.slice B0 x.cls.length l0,.slice B1 x.dec.length l1,.slice B2 x.exc.length l2,.slice D c.ents.length d1,.slice E c.grps.length d2,.int .i64 c.base,.int .i64 c.second,.int .i64 c.third,.int .i64 o.st,.int .i64 o.va,.bool o.bk,.bool o.idn,.map (some WD.heap.size),.slice none 0 0]) (some 32) rfl rfl (by kernel_rfl) (by kernel_rfl) (by kernel_rfl) (fun _ _ _ h=>h) (by rfl) (by assumption) (by intro w hSw;go_simp) ?_
  try simp only [Act.put,List.setIfInBounds_toArray,List.set_cons_zero,List.set_cons_succ]
  have Sn:=SH.out (W5.alloc (.cells #[.slice B0 x.cls.length l0,.slice B1 x.dec.length l1,.slice B2 x.exc.length l2,.slice D c.ents.length d1,.slice E c.grps.length d2,.int .i64 c.base,.int .i64 c.second,.int .i64 c.third,.int .i64 o.st,.int .i64 o.va,.bool o.bk,.bool o.idn,.map (some WD.heap.size),.slice none 0 0] 92)) (hS8.alloc hS8.size _)
  refine anyH_val (w':=W5.alloc (.cells #[.slice B0 x.cls.length l0,.slice B1 x.dec.length l1,.slice B2 x.exc.length l2,.slice D c.ents.length d1,.slice E c.grps.length d2,.int .i64 c.base,.int .i64 c.second,.int .i64 c.third,.int .i64 o.st,.int .i64 o.va,.bool o.bk,.bool o.idn,.map (some WD.heap.size),.slice none 0 0] 92)) (v:=.pointer (some ⟨W5.heap.size,0,none⟩)) (i:=7) (some 33) rfl rfl (by kernel_rfl) (by rfl) (by go_simp) Sn ?_
  try simp only [Act.put,List.setIfInBounds_toArray,List.set_cons_zero,List.set_cons_succ]
  clear hHeld
  have hHeld:=Sn
  clear Sn
  refine tK 8 6 ?_
  refine tK 9 7 ?_
  refine wpAnyH_done (by kernel_rfl) ?_ _
  have hend:=HEND.out W5 WD.heap.size B0 l0 B1 l1 B2 l2 D d1 E d2 hS8 HWD.size (hN4.below hb5) hC5 (((MapC.made _ _ _ _ _).below hb4).below hb5)
  clear hHeld
  go_wp2_with fail
  go_ret2
  exact ⟨B03.trans ((hS8.alloc hS8.size _).mono B03.size),.inr ⟨NE.out,W5.heap.size,⟨B0,l0,B1,l1,B2,l2,D,d1,E,d2⟩,WD.heap.size,by first | rfl | simp,hend⟩⟩
end Go.Proofs.YtijgbonhjcblcaaGreatDoor
