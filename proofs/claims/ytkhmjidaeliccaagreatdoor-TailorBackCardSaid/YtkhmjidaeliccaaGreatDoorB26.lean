/- Texts that are merged into one file: TlApply, TlAlive. -/
import Derived.Test.YtkhmjidaeliccaaGreatDoorB02
import Derived.Test.YtkhmjidaeliccaaGreatDoorB11
import Derived.Test.YtkhmjidaeliccaaGreatDoorB24
import Derived.Deep.Cut
set_option maxRecDepth 100000
set_option maxHeartbeats 51200000
namespace Go.Proofs.YtkhmjidaeliccaaGreatDoor
open Go.RowKit Go.Maps Go.WideMaps Tl Pa
theorem results_cf {k j:Nat} {fn:Func} (hr:fn.results=#[.cell k 32,.cell j 47]) (tmps:Array Value) (w:World) {b d:Nat} {v0 v1 v2 v3 v4 y0 y1:Value} (ha:tmps.getD k undef=.pointer (some ⟨b,0,none⟩)) (hd:tmps.getD j undef=.pointer (some ⟨d,0,none⟩))
  (c0:w.cell? ⟨b,0,none⟩=some v0) (c1:w.cell? ⟨b,1,none⟩=some v1) (c2:w.cell? ⟨b,2,none⟩=some v2) (c3:w.cell? ⟨b,3,none⟩=some v3) (c4:w.cell? ⟨b,4,none⟩=some v4) (d0:w.cell? ⟨d,0,none⟩=some y0) (d1:w.cell? ⟨d,1,none⟩=some y1) :
  (results fn tmps).run Tryz.prog w=.ok (.tuple #[.agg #[v0,v1,v2,v3,v4],.agg #[y0,y1]]) w:=by
 unfold results
 rw [hr]
 simp only [ha,hd,List.mapM_toArray,List.mapM_cons,List.mapM_nil,asAddr]
 go_simp
def RetApp (r:Int × Int × Col) (w:World) (e:Ending) (w':World):Prop:=∃A a B b,e=.returned (.tuple #[colV A r.2.2.ents.length a B r.2.2.grps.length b r.2.2,.agg #[.int .i64 r.1,.int .i64 r.2.1]])∧ColAt w' A r.2.2.ents.length B r.2.2.grps.length r.2.2∧Below w.heap.size w w'
structure ApS (w W0:World) (x:Nrm) (l:List Tlr) (r:Int × Int × Col) (n m i:Nat) (wr:World) (A:Option Addr) (a:Nat) (B:Option Addr) (b:Nat) (c:Col):Prop where
 eq:applyF x c (l.drop i) i=r
 box:Box wr (w.heap.size+1) 32 [.slice A c.ents.length a,.slice B c.grps.length b,.int .i64 c.base,.int .i64 c.second,.int .i64 c.third]
 fr:ColFr W0.heap.size wr A B c
 sz:ColSz c
 n:c.ents.length≤n+i
 m:c.grps.length=m
 b:Below w.heap.size w wr
 ch:Chg (fun q=>q=w.heap.size+1) W0 wr
theorem apply_any (A0:Option Addr) (n0 k0:Nat) (A1:Option Addr) (n1 k1:Nat) (A2:Option Addr) (n2 k2:Nat) (x:Nrm) (C:Option Addr) (n a:Nat) (B:Option Addr) (m b:Nat) (c:Col) (K:Option Addr) (k:Nat) (l:List Tlr) (w:World) (hN:NrmAt w A0 n0 A1 n1 A2 n2 x) (hz:NrmSz x) (hL:Laid w) (hC:ColAt w C n B m c) (hcz:ColSz c) (hK:Tlrs w K l)
  (hts:∀t ∈ l,t.anc.length≤1024∧t.cds.length≤1024∧(∀z ∈ t.anc,iok z)∧∀z ∈ t.cds,iok z) (hgn:n+l.length≤1048576) :
  Calls Tryz.prog 17 #[.agg #[.slice A0 n0 k0,.slice A1 n1 k1,.slice A2 n2 k2],colV C n a B m b c,.slice K l.length k] w (RetApp (applyF x c l 0) w):=by
 have B0:Below w.heap.size w ((((w.alloc (.cells #[.slice A0 n0 k0,.slice A1 n1 k1,.slice A2 n2 k2] 28)).alloc (.cells #[.slice C n a,.slice B m b,.int .i64 c.base,.int .i64 c.second,.int .i64 c.third] 32)).alloc (.cells #[.slice none 0 0,.slice none 0 0,.int .i64 0,.int .i64 0,.int .i64 0] 32)).alloc (.cells #[.int .i64 0,.int .i64 0] 47)):=((((Below.refl _ _).alloc (Nat.le_refl _) _).alloc (by simp) _).alloc (by simp <;> omega) _).alloc (by simp <;> omega) _
 have X0:Box ((((w.alloc (.cells #[.slice A0 n0 k0,.slice A1 n1 k1,.slice A2 n2 k2] 28)).alloc (.cells #[.slice C n a,.slice B m b,.int .i64 c.base,.int .i64 c.second,.int .i64 c.third] 32)).alloc (.cells #[.slice none 0 0,.slice none 0 0,.int .i64 0,.int .i64 0,.int .i64 0] 32)).alloc (.cells #[.int .i64 0,.int .i64 0] 47)) w.heap.size 28 [.slice A0 n0 k0,.slice A1 n1 k1,.slice A2 n2 k2]:=(((Box.new w 28 [.slice A0 n0 k0,.slice A1 n1 k1,.slice A2 n2 k2] rfl).below ((Below.refl _ _).alloc (Nat.le_refl _) _) (by simp)).below ((Below.refl _ _).alloc (Nat.le_refl _) _) (by simp <;> omega)).below ((Below.refl _ _).alloc (Nat.le_refl _) _) (by simp <;> omega)
 have X1:Box ((((w.alloc (.cells #[.slice A0 n0 k0,.slice A1 n1 k1,.slice A2 n2 k2] 28)).alloc (.cells #[.slice C n a,.slice B m b,.int .i64 c.base,.int .i64 c.second,.int .i64 c.third] 32)).alloc (.cells #[.slice none 0 0,.slice none 0 0,.int .i64 0,.int .i64 0,.int .i64 0] 32)).alloc (.cells #[.int .i64 0,.int .i64 0] 47)) (w.heap.size+1) 32 [.slice C n a,.slice B m b,.int .i64 c.base,.int .i64 c.second,.int .i64 c.third]:=((Box.new (w.alloc (.cells #[.slice A0 n0 k0,.slice A1 n1 k1,.slice A2 n2 k2] 28)) 32 [.slice C n a,.slice B m b,.int .i64 c.base,.int .i64 c.second,.int .i64 c.third] (by simp)).below ((Below.refl _ _).alloc (Nat.le_refl _) _) (by simp)).below ((Below.refl _ _).alloc (Nat.le_refl _) _) (by simp <;> omega)
 have X2:Box ((((w.alloc (.cells #[.slice A0 n0 k0,.slice A1 n1 k1,.slice A2 n2 k2] 28)).alloc (.cells #[.slice C n a,.slice B m b,.int .i64 c.base,.int .i64 c.second,.int .i64 c.third] 32)).alloc (.cells #[.slice none 0 0,.slice none 0 0,.int .i64 0,.int .i64 0,.int .i64 0] 32)).alloc (.cells #[.int .i64 0,.int .i64 0] 47)) (w.heap.size+2) 32 [.slice none 0 0,.slice none 0 0,.int .i64 0,.int .i64 0,.int .i64 0]:=(Box.new ((w.alloc (.cells #[.slice A0 n0 k0,.slice A1 n1 k1,.slice A2 n2 k2] 28)).alloc (.cells #[.slice C n a,.slice B m b,.int .i64 c.base,.int .i64 c.second,.int .i64 c.third] 32)) 32 [.slice none 0 0,.slice none 0 0,.int .i64 0,.int .i64 0,.int .i64 0] (by simp)).below ((Below.refl _ _).alloc (Nat.le_refl _) _) (by simp)
 have X3:Box ((((w.alloc (.cells #[.slice A0 n0 k0,.slice A1 n1 k1,.slice A2 n2 k2] 28)).alloc (.cells #[.slice C n a,.slice B m b,.int .i64 c.base,.int .i64 c.second,.int .i64 c.third] 32)).alloc (.cells #[.slice none 0 0,.slice none 0 0,.int .i64 0,.int .i64 0,.int .i64 0] 32)).alloc (.cells #[.int .i64 0,.int .i64 0] 47)) (w.heap.size+3) 47 [.int .i64 0,.int .i64 0]:=Box.new (((w.alloc (.cells #[.slice A0 n0 k0,.slice A1 n1 k1,.slice A2 n2 k2] 28)).alloc (.cells #[.slice C n a,.slice B m b,.int .i64 c.base,.int .i64 c.second,.int .i64 c.third] 32)).alloc (.cells #[.slice none 0 0,.slice none 0 0,.int .i64 0,.int .i64 0,.int .i64 0] 32)) 47 [.int .i64 0,.int .i64 0] (by simp)
 have W0E:∃W0,((((w.alloc (.cells #[.slice A0 n0 k0,.slice A1 n1 k1,.slice A2 n2 k2] 28)).alloc (.cells #[.slice C n a,.slice B m b,.int .i64 c.base,.int .i64 c.second,.int .i64 c.third] 32)).alloc (.cells #[.slice none 0 0,.slice none 0 0,.int .i64 0,.int .i64 0,.int .i64 0] 32)).alloc (.cells #[.int .i64 0,.int .i64 0] 47))=W0:=⟨_,rfl⟩
 have K6:=Lib.hid (fun W (hb:Below w.heap.size w W)=>copied_any C n a B m b c W (hC.below hb) hcz)
 have KS:=Lib.hid (fun W (hb:Below w.heap.size w W) A a B b (c:Col) P pk Q qk (t:Tlr) (hC:ColAt W A c.ents.length B c.grps.length c) (hcz:ColSz c) (hP:Ints W P t.anc) (hQ:Ints W Q t.cds) (h:t.anc.length≤1024∧t.cds.length≤1024∧(∀z ∈ t.anc,iok z)∧∀z ∈ t.cds,iok z)=>step_any A0 n0 k0 A1 n1 k1 A2 n2 k2 x A c.ents.length a B c.grps.length b c P pk Q qk t W (hN.below hb) hz (hL.below hb) hC hcz hP hQ (by omega) (by omega) h.2.2.1 h.2.2.2 (by have:=elsN_len x c t.anc;omega))
 have HT:=Lib.hid (fun W (hb:Below w.heap.size w W)=>hK.below hb)
 unfold RetStp at KS
 unfold RetCp at K6
 unfold colV at KS K6 ⊢
 have HTS:=Lib.hid hts
 have HCZ:=Lib.hid hcz
 have hCn:=hC.hn
 have hCm:=hC.hm
 have hcm:=hcz.m
 obtain ⟨r,hr⟩:∃r,applyF x c l 0=r:=⟨_,rfl⟩
 have HR:=Lib.hid hr
 have HCN:=Lib.hid hCn
 have HCM:=Lib.hid hCm
 rw [hr]
 clear hr hN hC hL hz hcz hK hts hCn hCm
 go_enter Tryz.func17,Tryz.ntmps17
 go_upto_region 1 with (fail)
 obtain ⟨W0,hW0⟩:=W0E
 try rw [hW0] at B0 X0 X1 X2 X3 ⊢
 clear hW0
 have l0:=X0.lt
 have l1:=X1.lt
 have l2:=X2.lt
 have l3:=X3.lt
 have HB0:=Lib.hid B0
 have HX0:=Lib.hid X0
 have HX1:=Lib.hid X1
 have HX2:=Lib.hid X2
 have HX3:=Lib.hid X3
 have hw0:=B0.size
 clear X0 X1 X2 X3 B0
 have c0:=HX1.out.cell (i:=0) rfl
 have c1:=HX1.out.cell (i:=1) rfl
 have c2:=HX1.out.cell (i:=2) rfl
 have c3:=HX1.out.cell (i:=3) rfl
 have c4:=HX1.out.cell (i:=4) rfl
 have C6:=Lib.hid (K6.out W0 HB0.out)
 clear K6
 go_wp2_with fail
 with_reducible refine C6.out.mono ?_
 rintro e Wf ⟨A',a',B',b',base,zz,top,rfl,hcp,hgr,-,hca,hz1,hz2,hb1⟩
 clear C6 c0 c1 c2 c3 c4
 have HFR:=cp_fresh hcp hgr hz1 hz2 hca.hs
 have hX1f:=HX1.out.below hb1 HX1.out.lt
 have hb1s:=hb1.size
 have g0:=hX1f.cell (i:=0) rfl
 have g1:=hX1f.cell (i:=1) rfl
 have g2:=hX1f.cell (i:=2) rfl
 have g3:=hX1f.cell (i:=3) rfl
 have g4:=hX1f.cell (i:=4) rfl
 have f0:=hX1f.free 0
 have f1:=hX1f.free 1
 have f2:=hX1f.free 2
 have f3:=hX1f.free 3
 have f4:=hX1f.free 4
 have CH:Chg (fun q=>q=w.heap.size+1) Wf (((((Wf.setCell ⟨w.heap.size+1,0,none⟩ (.slice A' c.ents.length a')).setCell ⟨w.heap.size+1,1,none⟩ (.slice B' c.grps.length b')).setCell ⟨w.heap.size+1,2,none⟩ (.int .i64 c.base)).setCell ⟨w.heap.size+1,3,none⟩ (.int .i64 c.second)).setCell ⟨w.heap.size+1,4,none⟩ (.int .i64 c.third)):=Chg.of_grown (gr_set (p:=⟨w.heap.size+1,4,none⟩) (gr_set (p:=⟨w.heap.size+1,3,none⟩) (gr_set (p:=⟨w.heap.size+1,2,none⟩) (gr_set (p:=⟨w.heap.size+1,1,none⟩) (gr_set (p:=⟨w.heap.size+1,0,none⟩) (grownR_refl Wf _) _) _) _) _) _) (fun q e=>(Option.some.inj e).symm)
 have XC:Box (((((Wf.setCell ⟨w.heap.size+1,0,none⟩ (.slice A' c.ents.length a')).setCell ⟨w.heap.size+1,1,none⟩ (.slice B' c.grps.length b')).setCell ⟨w.heap.size+1,2,none⟩ (.int .i64 c.base)).setCell ⟨w.heap.size+1,3,none⟩ (.int .i64 c.second)).setCell ⟨w.heap.size+1,4,none⟩ (.int .i64 c.third)) (w.heap.size+1) 32 [.slice A' c.ents.length a',.slice B' c.grps.length b',.int .i64 c.base,.int .i64 c.second,.int .i64 c.third]:=(((((hX1f.set 0 (.slice A' c.ents.length a')).set 1 (.slice B' c.grps.length b')).set 2 (.int .i64 c.base)).set 3 (.int .i64 c.second)).set 4 (.int .i64 c.third))
 have BC:Below w.heap.size w (((((Wf.setCell ⟨w.heap.size+1,0,none⟩ (.slice A' c.ents.length a')).setCell ⟨w.heap.size+1,1,none⟩ (.slice B' c.grps.length b')).setCell ⟨w.heap.size+1,2,none⟩ (.int .i64 c.base)).setCell ⟨w.heap.size+1,3,none⟩ (.int .i64 c.second)).setCell ⟨w.heap.size+1,4,none⟩ (.int .i64 c.third)):=(HB0.out.trans (hb1.mono HB0.out.size)).trans (Chg.below CH (n:=w.heap.size) (by omega) (fun k (hk:k=w.heap.size+1)=>by omega))
 have FC:=HFR.chg CH (fun q (hq:q=w.heap.size+1)=>by omega)
 have CC:Chg (fun q=>q=w.heap.size+1) W0 (((((Wf.setCell ⟨w.heap.size+1,0,none⟩ (.slice A' c.ents.length a')).setCell ⟨w.heap.size+1,1,none⟩ (.slice B' c.grps.length b')).setCell ⟨w.heap.size+1,2,none⟩ (.int .i64 c.base)).setCell ⟨w.heap.size+1,3,none⟩ (.int .i64 c.second)).setCell ⟨w.heap.size+1,4,none⟩ (.int .i64 c.third)):=(Chg.of_below hb1).trans CH
 have WE1:∃Wc,(((((Wf.setCell ⟨w.heap.size+1,0,none⟩ (.slice A' c.ents.length a')).setCell ⟨w.heap.size+1,1,none⟩ (.slice B' c.grps.length b')).setCell ⟨w.heap.size+1,2,none⟩ (.int .i64 c.base)).setCell ⟨w.heap.size+1,3,none⟩ (.int .i64 c.second)).setCell ⟨w.heap.size+1,4,none⟩ (.int .i64 c.third))=Wc:=⟨_,rfl⟩
 clear hcp hgr hca hz1 hz2 CH HFR hb1 hX1f
 go_upto_region 2 with (fail)
 obtain ⟨Wc,hWc⟩:=WE1
 rw [hWc] at XC BC FC CC ⊢
 clear hWc f0 f1 f2 f3 f4 g0 g1 g2 g3 g4
 have HS0:=Lib.hid (show ApS w W0 x l r n m 0 Wc A' a' B' b' c from ⟨by rw [List.drop_zero];exact HR.out,XC,FC,HCZ.out,by have:=HCN.out;omega,HCM.out,BC,CC⟩)
 clear XC BC FC CC HR HCZ
 go_wp2_with fail
 go_loopw [15] (fun u wr=>∃i:Nat,i≤l.length∧u=.int .i64 i∧∃A a B b c,ApS w W0 x l r n m i wr A a B b c) (fun u _=>l.length - (intOf u).toNat)
 case atStart=>exact ⟨0,Nat.zero_le _,rfl,_,_,_,_,_,HS0.out⟩
 case round=>
  as_aux_lemma=>
  obtain ⟨i,hi,rfl,A,a,B,b,c,hS⟩:=hrel
  have HS:=Lib.hid hS
  have hwr:=hS.b.size
  have hch:=hS.ch.size
  have s1:=hS.box
  clear hS HS0
  by_cases hlt:i < l.length
  ·obtain ⟨kb,ko,rfl,hkb,hat⟩:=(HT.out wr HS.out.b).at hlt
   obtain ⟨P,pk,Q,qk,t0,t1,t2,t3,hP,hQ⟩:=hat i hlt
   have HEQ:=Lib.hid (show r=if (stpV x c l[i]).1≠0 then ((stpV x c l[i]).1,(i:Int),col0) else applyF x (stpV x c l[i]).2 (l.drop (i+1)) (i+1) from by rw [←HS.out.eq,applyF_step hlt])
   have HTI:=Lib.hid (HTS.out _ (List.getElem_mem hlt))
   clear hat
   generalize l[i]=t at *
   have XA:Box (wr.alloc (.cells #[.slice P t.anc.length pk,.slice Q t.cds.length qk,.int .i64 t.lvl,.bool t.bef] 35)) wr.heap.size 35 [.slice P t.anc.length pk,.slice Q t.cds.length qk,.int .i64 t.lvl,.bool t.bef]:=Box.new wr 35 [.slice P t.anc.length pk,.slice Q t.cds.length qk,.int .i64 t.lvl,.bool t.bef] rfl
   have BA:Below wr.heap.size wr (wr.alloc (.cells #[.slice P t.anc.length pk,.slice Q t.cds.length qk,.int .i64 t.lvl,.bool t.bef] 35)):=(Below.refl _ _).alloc (Nat.le_refl _) _
   have WE2:∃Wa,wr.alloc (.cells #[.slice P t.anc.length pk,.slice Q t.cds.length qk,.int .i64 t.lvl,.bool t.bef] 35)=Wa:=⟨_,rfl⟩
   have hPa:=hP.below BA
   have hQa:=hQ.below BA
   obtain ⟨pn,hpn⟩:∃pn,t.anc.length=pn:=⟨_,rfl⟩
   obtain ⟨qn,hqn⟩:∃qn,t.cds.length=qn:=⟨_,rfl⟩
   have KS1:=fun W hb A a B b c hC hcz hP hQ h=>KS.out W hb A a B b c P pk Q qk t hC hcz hP hQ h
   rw [hpn] at t0 XA BA WE2 KS1 hPa hQa
   rw [hqn] at t1 XA BA WE2 KS1 hPa hQa
   have HKS:=Lib.hid KS1
   have HPN:=Lib.hid hpn
   have HQN:=Lib.hid hqn
   clear hpn hqn KS1 hP hQ
   go_upto_region 6 with (fail)
   obtain ⟨Wa,hWa⟩:=WE2
   rw [hWa] at XA BA hPa hQa ⊢
   clear hWa t0 t1 t2 t3 s1
   have a1:=HS.out.box.below BA HS.out.box.lt
   have a0:=(HS.out.ch.box HX0.out (fun (e:w.heap.size=w.heap.size+1)=>by omega)).below BA (by omega)
   have a2:=(HS.out.ch.box HX2.out (fun (e:w.heap.size+2=w.heap.size+1)=>by omega)).below BA (by omega)
   have a3:=(HS.out.ch.box HX3.out (fun (e:w.heap.size+3=w.heap.size+1)=>by omega)).below BA (by omega)
   have d0:=a1.cell (i:=0) rfl
   have d1:=a1.cell (i:=1) rfl
   have d2:=a1.cell (i:=2) rfl
   have d3:=a1.cell (i:=3) rfl
   have d4:=a1.cell (i:=4) rfl
   have e0:=a0.cell (i:=0) rfl
   have e1:=a0.cell (i:=1) rfl
   have e2:=a0.cell (i:=2) rfl
   have h0:=XA.cell (i:=0) rfl
   have h1:=XA.cell (i:=1) rfl
   have h2:=XA.cell (i:=2) rfl
   have h3:=XA.cell (i:=3) rfl
   have hba:=HS.out.b.trans (BA.mono hwr)
   have KC:=Lib.hid (HKS.out Wa hba A a B b c (HS.out.fr.below BA).here HS.out.sz (by have:=HPN.out;subst this;exact hPa) (by have:=HQN.out;subst this;exact hQa) (by have h:=HTI.out;rw [HPN.out,HQN.out] at h;exact h))
   have HA1:=Lib.hid a1
   have HA2:=Lib.hid a2
   have HA3:=Lib.hid a3
   have HBA:=Lib.hid hba
   have HCA:=Lib.hid (HS.out.ch.trans (Chg.of_below BA))
   have HST:=Lib.hid (fun h=>stp_sz (x:=x) (c:=c) (t:=t) h)
   have hws:=BA.size
   have hla:=a3.lt
   clear a1 a2 a3 a0 hba BA XA HKS hPa hQa KS HTI HTS
   generalize stpV x c t=sv at *
   obtain ⟨en,c2⟩:=sv
   go_wp2_with fail
   with_reducible refine KC.out.mono ?_
   (try dsimp only)
   rintro e W2 ⟨A2,a2,B2,b2,rfl,-,hfr,hb2⟩
   clear KC d0 d1 d2 d3 d4 e0 e1 e2 h0 h1 h2 h3
   have hb2s:=hb2.size
   have y1:=HA1.out.below hb2 HA1.out.lt
   have y2:=HA2.out.below hb2 HA2.out.lt
   have y3:=HA3.out.below hb2 HA3.out.lt
   have g0:=y1.cell (i:=0) rfl
   have g1:=y1.cell (i:=1) rfl
   have g2:=y1.cell (i:=2) rfl
   have g3:=y1.cell (i:=3) rfl
   have g4:=y1.cell (i:=4) rfl
   have f0:=y1.free 0
   have f1:=y1.free 1
   have f2:=y1.free 2
   have f3:=y1.free 3
   have f4:=y1.free 4
   have CH:Chg (fun q=>q=w.heap.size+1) W2 (((((W2.setCell ⟨w.heap.size+1,0,none⟩ (.slice A2 c2.ents.length a2)).setCell ⟨w.heap.size+1,1,none⟩ (.slice B2 c2.grps.length b2)).setCell ⟨w.heap.size+1,2,none⟩ (.int .i64 c2.base)).setCell ⟨w.heap.size+1,3,none⟩ (.int .i64 c2.second)).setCell ⟨w.heap.size+1,4,none⟩ (.int .i64 c2.third)):=Chg.of_grown (gr_set (p:=⟨w.heap.size+1,4,none⟩) (gr_set (p:=⟨w.heap.size+1,3,none⟩) (gr_set (p:=⟨w.heap.size+1,2,none⟩) (gr_set (p:=⟨w.heap.size+1,1,none⟩) (gr_set (p:=⟨w.heap.size+1,0,none⟩) (grownR_refl W2 _) _) _) _) _) _) (fun q e=>(Option.some.inj e).symm)
   have XD:Box (((((W2.setCell ⟨w.heap.size+1,0,none⟩ (.slice A2 c2.ents.length a2)).setCell ⟨w.heap.size+1,1,none⟩ (.slice B2 c2.grps.length b2)).setCell ⟨w.heap.size+1,2,none⟩ (.int .i64 c2.base)).setCell ⟨w.heap.size+1,3,none⟩ (.int .i64 c2.second)).setCell ⟨w.heap.size+1,4,none⟩ (.int .i64 c2.third)) (w.heap.size+1) 32 [.slice A2 c2.ents.length a2,.slice B2 c2.grps.length b2,.int .i64 c2.base,.int .i64 c2.second,.int .i64 c2.third]:=(((((y1.set 0 (.slice A2 c2.ents.length a2)).set 1 (.slice B2 c2.grps.length b2)).set 2 (.int .i64 c2.base)).set 3 (.int .i64 c2.second)).set 4 (.int .i64 c2.third))
   have BD:Below w.heap.size w (((((W2.setCell ⟨w.heap.size+1,0,none⟩ (.slice A2 c2.ents.length a2)).setCell ⟨w.heap.size+1,1,none⟩ (.slice B2 c2.grps.length b2)).setCell ⟨w.heap.size+1,2,none⟩ (.int .i64 c2.base)).setCell ⟨w.heap.size+1,3,none⟩ (.int .i64 c2.second)).setCell ⟨w.heap.size+1,4,none⟩ (.int .i64 c2.third)):=(HBA.out.trans (hb2.mono HBA.out.size)).trans (Chg.below CH (n:=w.heap.size) (by omega) (fun k (hk:k=w.heap.size+1)=>by omega))
   have FD:=ColFr.low (ColFr.chg (N:=Wa.heap.size) hfr CH (fun q (hq:q=w.heap.size+1)=>by omega)) (by omega:W0.heap.size≤Wa.heap.size)
   have CD:Chg (fun q=>q=w.heap.size+1) W0 (((((W2.setCell ⟨w.heap.size+1,0,none⟩ (.slice A2 c2.ents.length a2)).setCell ⟨w.heap.size+1,1,none⟩ (.slice B2 c2.grps.length b2)).setCell ⟨w.heap.size+1,2,none⟩ (.int .i64 c2.base)).setCell ⟨w.heap.size+1,3,none⟩ (.int .i64 c2.second)).setCell ⟨w.heap.size+1,4,none⟩ (.int .i64 c2.third)):=(HCA.out.trans (Chg.of_below hb2)).trans CH
   have Y2:=CH.box y2 (fun (e:w.heap.size+2=w.heap.size+1)=>by omega)
   have Y3:=CH.box y3 (fun (e:w.heap.size+3=w.heap.size+1)=>by omega)
   have WE3:∃Wd,(((((W2.setCell ⟨w.heap.size+1,0,none⟩ (.slice A2 c2.ents.length a2)).setCell ⟨w.heap.size+1,1,none⟩ (.slice B2 c2.grps.length b2)).setCell ⟨w.heap.size+1,2,none⟩ (.int .i64 c2.base)).setCell ⟨w.heap.size+1,3,none⟩ (.int .i64 c2.second)).setCell ⟨w.heap.size+1,4,none⟩ (.int .i64 c2.third))=Wd:=⟨_,rfl⟩
   have HXD:=Lib.hid XD
   have HBD:=Lib.hid BD
   have HFD:=Lib.hid FD
   have HCD:=Lib.hid CD
   have HY2:=Lib.hid Y2
   have HY3:=Lib.hid Y3
   have HWE:=Lib.hid WE3
   clear hfr hb2 CH y1 y2 y3 XD BD FD CD Y2 Y3 WE3
   by_cases q1:en=0
   ·subst q1
    have HEQ2:=Lib.hid (show applyF x c2 (l.drop (i+1)) (i+1)=r from by rw [HEQ.out,if_neg (by simp)])
    go_upto_region 7 with (fail)
    obtain ⟨Wd,hWd⟩:=HWE.out
    rw [hWd] at HXD HBD HFD HCD HY2 HY3 ⊢
    clear hWd f0 f1 f2 f3 f4 g0 g1 g2 g3 g4 HWE
    obtain ⟨z1,z2,z3⟩:=HST.out (by trivial)
    (try dsimp only at z1 z2 z3)
    have HS2:=Lib.hid (show ApS w W0 x l r n m (i+1) Wd A2 a2 B2 b2 c2 from ⟨HEQ2.out,HXD.out,HFD.out,col_sz z3 (by have:=HS.out.n;omega) (by have:=HS.out.m;have:=HCM.out;omega),by have:=HS.out.n;omega,by have:=HS.out.m;omega,HBD.out,HCD.out⟩)
    clear HXD HBD HFD HCD z1 z2 z3
    go_wp2_with fail
    go_roundw
    case rel=>exact ⟨i+1,by omega,by go_num,_,_,_,_,_,HS2.out⟩
    case measure=>(try simp [intOf]) <;> (try omega)
   ·have q2:(en != 0)=true:=by simp [q1]
    have HE:=Lib.hid (show r=(en,(i:Int),col0) from by rw [HEQ.out,if_pos q1])
    clear q1 HST HEQ
    go_upto_region 7 with (fail)
    obtain ⟨Wd,hWd⟩:=HWE.out
    rw [hWd] at HXD HBD HFD HCD HY2 HY3 ⊢
    clear hWd f0 f1 f2 f3 f4 g0 g1 g2 g3 g4 HWE
    have Y2:=HY2.out
    have Y3:=HY3.out
    have BD:=HBD.out
    clear HY2 HY3 HXD HFD HCD
    obtain ⟨u3,hu3⟩:∃u,w.heap.size+1+1+1=u:=⟨_,rfl⟩
    rw [hu3]
    obtain ⟨u2,hu2⟩:∃u,w.heap.size+1+1=u:=⟨_,rfl⟩
    rw [hu2]
    have V2:Box Wd u2 32 [.slice none 0 0,.slice none 0 0,.int .i64 0,.int .i64 0,.int .i64 0]:=by rw [←hu2];exact Y2
    have V3:Box Wd u3 47 [.int .i64 0,.int .i64 0]:=by rw [←hu3];exact Y3
    have hw2:w.heap.size≤u2:=by omega
    have hw3:w.heap.size≤u3:=by omega
    have h23:¬u2=u3:=by omega
    have h32:¬u3=u2:=by omega
    have huN:u2 < W0.heap.size∧u3 < W0.heap.size:=by have:=HX3.out.lt;omega
    clear Y2 Y3 hu2 hu3
    have f0:=V2.free 0
    have f1:=V2.free 1
    have f2:=V2.free 2
    have f3:=V2.free 3
    have f4:=V2.free 4
    have g0:=V2.cell (i:=0) rfl
    have g1:=V2.cell (i:=1) rfl
    have g2:=V2.cell (i:=2) rfl
    have g3:=V2.cell (i:=3) rfl
    have g4:=V2.cell (i:=4) rfl
    have C1:Chg (fun q=>q=u2) Wd (((((Wd.setCell ⟨u2,0,none⟩ (.slice none 0 0)).setCell ⟨u2,1,none⟩ (.slice none 0 0)).setCell ⟨u2,2,none⟩ (.int .i64 0)).setCell ⟨u2,3,none⟩ (.int .i64 0)).setCell ⟨u2,4,none⟩ (.int .i64 0)):=Chg.of_grown (gr_set (p:=⟨u2,4,none⟩) (gr_set (p:=⟨u2,3,none⟩) (gr_set (p:=⟨u2,2,none⟩) (gr_set (p:=⟨u2,1,none⟩) (gr_set (p:=⟨u2,0,none⟩) (grownR_refl Wd _) _) _) _) _) _) (fun q e=>(Option.some.inj e).symm)
    have Z2:Box (((((Wd.setCell ⟨u2,0,none⟩ (.slice none 0 0)).setCell ⟨u2,1,none⟩ (.slice none 0 0)).setCell ⟨u2,2,none⟩ (.int .i64 0)).setCell ⟨u2,3,none⟩ (.int .i64 0)).setCell ⟨u2,4,none⟩ (.int .i64 0)) u2 32 [.slice none 0 0,.slice none 0 0,.int .i64 0,.int .i64 0,.int .i64 0]:=(((((V2.set 0 (.slice none 0 0)).set 1 (.slice none 0 0)).set 2 (.int .i64 0)).set 3 (.int .i64 0)).set 4 (.int .i64 0))
    have WXE:=Lib.hid (show ∃Wx,(((((Wd.setCell ⟨u2,0,none⟩ (.slice none 0 0)).setCell ⟨u2,1,none⟩ (.slice none 0 0)).setCell ⟨u2,2,none⟩ (.int .i64 0)).setCell ⟨u2,3,none⟩ (.int .i64 0)).setCell ⟨u2,4,none⟩ (.int .i64 0))=Wx from ⟨_,rfl⟩)
    have HC1:=Lib.hid C1
    have HZ2:=Lib.hid Z2
    have HV3:=Lib.hid V3
    clear C1 Z2 V2 V3
    go_upto_region 8 with (fail)
    go_step
    go_step
    go_step
    go_step
    go_step
    go_step
    go_step
    go_step
    go_step
    go_step
    go_step
    go_step
    go_step
    go_step
    go_step
    go_step
    go_step
    obtain ⟨Wx,hWx⟩:=WXE.out
    rw [hWx] at HC1 HZ2 ⊢
    clear hWx WXE f0 g0 f1 g1 f2 g2 f3 g3 f4 g4
    have Y3:=HC1.out.box HV3.out (fun (e:u3=u2)=>h32 e)
    have p0:=Y3.free 0
    have p1:=Y3.free 1
    have q0:=Y3.cell (i:=0) rfl
    have q1:=Y3.cell (i:=1) rfl
    have l2:=HZ2.out.lt
    have l3:=Y3.lt
    have C2:Chg (fun q=>q=u3) Wx ((Wx.setCell ⟨u3,0,none⟩ (.int .i64 en)).setCell ⟨u3,1,none⟩ (.int .i64 (i:Int))):=Chg.of_grown (gr_set (p:=⟨u3,1,none⟩) (gr_set (p:=⟨u3,0,none⟩) (grownR_refl Wx _) _) _) (fun q e=>(Option.some.inj e).symm)
    have Z2:=C2.box HZ2.out (fun (e:u2=u3)=>h23 e)
    have Z3:Box ((Wx.setCell ⟨u3,0,none⟩ (.int .i64 en)).setCell ⟨u3,1,none⟩ (.int .i64 (i:Int))) u3 47 [.int .i64 en,.int .i64 (i:Int)]:=((Y3.set 0 (.int .i64 en)).set 1 (.int .i64 (i:Int)))
    have CA:Chg (fun q=>q=u2∨q=u3) Wd ((Wx.setCell ⟨u3,0,none⟩ (.int .i64 en)).setCell ⟨u3,1,none⟩ (.int .i64 (i:Int))):=(HC1.out.mono (fun _ _ e=>.inl e)).trans (C2.mono (fun _ _ e=>.inr e))
    have BF:Below w.heap.size w ((Wx.setCell ⟨u3,0,none⟩ (.int .i64 en)).setCell ⟨u3,1,none⟩ (.int .i64 (i:Int))):=BD.trans (Chg.below CA (n:=w.heap.size) BD.size (fun k (hk:k=u2∨k=u3)=>by omega))
    have WFE:=Lib.hid (show ∃Wf,((Wx.setCell ⟨u3,0,none⟩ (.int .i64 en)).setCell ⟨u3,1,none⟩ (.int .i64 (i:Int)))=Wf from ⟨_,rfl⟩)
    have HY2:=Lib.hid Z2
    have HY3:=Lib.hid Z3
    have HBF:=Lib.hid BF
    clear C2 CA Z2 Z3 BF BD Y3 HC1 HZ2 HV3 huN
    go_wp2_with fail
    obtain ⟨Wf,hWf⟩:=WFE.out
    try rw [hWf] at HY2 HY3 HBF ⊢
    clear hWf
    have z0:=HY2.out.cell (i:=0) rfl
    have z1:=HY2.out.cell (i:=1) rfl
    have z2:=HY2.out.cell (i:=2) rfl
    have z3:=HY2.out.cell (i:=3) rfl
    have z4:=HY2.out.cell (i:=4) rfl
    have y0:=HY3.out.cell (i:=0) rfl
    have y1:=HY3.out.cell (i:=1) rfl
    (try simp only [Exit.inBlock,Exit.then])
    refine bodyPost_ret (results_cf rfl _ _ (b:=u2) (d:=u3) rfl rfl z0 z1 z2 z3 z4 y0 y1) rfl ?_
    rw [HE.out]
    exact ⟨none,0,none,0,rfl,col0_at _,HBF.out⟩
  ·obtain rfl:i=l.length:=by omega
   have HE:=Lib.hid (show r=(0,0,c) from by rw [←HS.out.eq,applyF_end])
   have Y2:=HS.out.ch.box HX2.out (fun (e:w.heap.size+2=w.heap.size+1)=>by omega)
   have Y3:=HS.out.ch.box HX3.out (fun (e:w.heap.size+3=w.heap.size+1)=>by omega)
   have FD:=HS.out.fr
   have BD:=HS.out.b
   have d0:=s1.cell (i:=0) rfl
   have d1:=s1.cell (i:=1) rfl
   have d2:=s1.cell (i:=2) rfl
   have d3:=s1.cell (i:=3) rfl
   have d4:=s1.cell (i:=4) rfl
   clear s1 HT HTS KS
   obtain ⟨u3,hu3⟩:∃u,w.heap.size+1+1+1=u:=⟨_,rfl⟩
   rw [hu3]
   obtain ⟨u2,hu2⟩:∃u,w.heap.size+1+1=u:=⟨_,rfl⟩
   rw [hu2]
   have V2:Box wr u2 32 [.slice none 0 0,.slice none 0 0,.int .i64 0,.int .i64 0,.int .i64 0]:=by rw [←hu2];exact Y2
   have V3:Box wr u3 47 [.int .i64 0,.int .i64 0]:=by rw [←hu3];exact Y3
   have hw2:w.heap.size≤u2:=by omega
   have hw3:w.heap.size≤u3:=by omega
   have h23:¬u2=u3:=by omega
   have h32:¬u3=u2:=by omega
   have huN:u2 < W0.heap.size∧u3 < W0.heap.size:=by have:=HX3.out.lt;omega
   clear Y2 Y3 hu2 hu3
   have f0:=V2.free 0
   have f1:=V2.free 1
   have f2:=V2.free 2
   have f3:=V2.free 3
   have f4:=V2.free 4
   have g0:=V2.cell (i:=0) rfl
   have g1:=V2.cell (i:=1) rfl
   have g2:=V2.cell (i:=2) rfl
   have g3:=V2.cell (i:=3) rfl
   have g4:=V2.cell (i:=4) rfl
   have C1:Chg (fun q=>q=u2) wr (((((wr.setCell ⟨u2,0,none⟩ (.slice A c.ents.length a)).setCell ⟨u2,1,none⟩ (.slice B c.grps.length b)).setCell ⟨u2,2,none⟩ (.int .i64 c.base)).setCell ⟨u2,3,none⟩ (.int .i64 c.second)).setCell ⟨u2,4,none⟩ (.int .i64 c.third)):=Chg.of_grown (gr_set (p:=⟨u2,4,none⟩) (gr_set (p:=⟨u2,3,none⟩) (gr_set (p:=⟨u2,2,none⟩) (gr_set (p:=⟨u2,1,none⟩) (gr_set (p:=⟨u2,0,none⟩) (grownR_refl wr _) _) _) _) _) _) (fun q e=>(Option.some.inj e).symm)
   have Z2:Box (((((wr.setCell ⟨u2,0,none⟩ (.slice A c.ents.length a)).setCell ⟨u2,1,none⟩ (.slice B c.grps.length b)).setCell ⟨u2,2,none⟩ (.int .i64 c.base)).setCell ⟨u2,3,none⟩ (.int .i64 c.second)).setCell ⟨u2,4,none⟩ (.int .i64 c.third)) u2 32 [.slice A c.ents.length a,.slice B c.grps.length b,.int .i64 c.base,.int .i64 c.second,.int .i64 c.third]:=(((((V2.set 0 (.slice A c.ents.length a)).set 1 (.slice B c.grps.length b)).set 2 (.int .i64 c.base)).set 3 (.int .i64 c.second)).set 4 (.int .i64 c.third))
   have WXE:=Lib.hid (show ∃Wx,(((((wr.setCell ⟨u2,0,none⟩ (.slice A c.ents.length a)).setCell ⟨u2,1,none⟩ (.slice B c.grps.length b)).setCell ⟨u2,2,none⟩ (.int .i64 c.base)).setCell ⟨u2,3,none⟩ (.int .i64 c.second)).setCell ⟨u2,4,none⟩ (.int .i64 c.third))=Wx from ⟨_,rfl⟩)
   have HC1:=Lib.hid C1
   have HZ2:=Lib.hid Z2
   have HV3:=Lib.hid V3
   clear C1 Z2 V2 V3
   go_upto_region 10 with (fail)
   go_step
   go_step
   go_step
   go_step
   go_step
   go_step
   go_step
   go_step
   go_step
   go_step
   go_step
   obtain ⟨Wx,hWx⟩:=WXE.out
   rw [hWx] at HC1 HZ2 ⊢
   clear hWx WXE f0 g0 f1 g1 f2 g2 f3 g3 f4 g4
   have Y3:=HC1.out.box HV3.out (fun (e:u3=u2)=>h32 e)
   have p0:=Y3.free 0
   have p1:=Y3.free 1
   have q0:=Y3.cell (i:=0) rfl
   have q1:=Y3.cell (i:=1) rfl
   have l2:=HZ2.out.lt
   have l3:=Y3.lt
   have C2:Chg (fun q=>q=u3) Wx ((Wx.setCell ⟨u3,0,none⟩ (.int .i64 0)).setCell ⟨u3,1,none⟩ (.int .i64 0)):=Chg.of_grown (gr_set (p:=⟨u3,1,none⟩) (gr_set (p:=⟨u3,0,none⟩) (grownR_refl Wx _) _) _) (fun q e=>(Option.some.inj e).symm)
   have Z2:=C2.box HZ2.out (fun (e:u2=u3)=>h23 e)
   have Z3:Box ((Wx.setCell ⟨u3,0,none⟩ (.int .i64 0)).setCell ⟨u3,1,none⟩ (.int .i64 0)) u3 47 [.int .i64 0,.int .i64 0]:=((Y3.set 0 (.int .i64 0)).set 1 (.int .i64 0))
   have CA:Chg (fun q=>q=u2∨q=u3) wr ((Wx.setCell ⟨u3,0,none⟩ (.int .i64 0)).setCell ⟨u3,1,none⟩ (.int .i64 0)):=(HC1.out.mono (fun _ _ e=>.inl e)).trans (C2.mono (fun _ _ e=>.inr e))
   have BF:Below w.heap.size w ((Wx.setCell ⟨u3,0,none⟩ (.int .i64 0)).setCell ⟨u3,1,none⟩ (.int .i64 0)):=BD.trans (Chg.below CA (n:=w.heap.size) BD.size (fun k (hk:k=u2∨k=u3)=>by omega))
   have FF:=(FD.chg CA (fun q (hq:q=u2∨q=u3)=>by omega)).here
   have WFE:=Lib.hid (show ∃Wf,((Wx.setCell ⟨u3,0,none⟩ (.int .i64 0)).setCell ⟨u3,1,none⟩ (.int .i64 0))=Wf from ⟨_,rfl⟩)
   have HY2:=Lib.hid Z2
   have HY3:=Lib.hid Z3
   have HBF:=Lib.hid BF
   have HFF:=Lib.hid FF
   clear FF FD
   clear C2 CA Z2 Z3 BF BD Y3 HC1 HZ2 HV3 huN
   go_wp2_with fail
   obtain ⟨Wf,hWf⟩:=WFE.out
   try rw [hWf] at HY2 HY3 HBF HFF ⊢
   clear hWf
   have z0:=HY2.out.cell (i:=0) rfl
   have z1:=HY2.out.cell (i:=1) rfl
   have z2:=HY2.out.cell (i:=2) rfl
   have z3:=HY2.out.cell (i:=3) rfl
   have z4:=HY2.out.cell (i:=4) rfl
   have y0:=HY3.out.cell (i:=0) rfl
   have y1:=HY3.out.cell (i:=1) rfl
   (try simp only [Exit.inBlock,Exit.then])
   refine bodyPost_ret (results_cf rfl _ _ (b:=u2) (d:=u3) rfl rfl z0 z1 z2 z3 z4 y0 y1) rfl ?_
   rw [HE.out]
   exact ⟨_,_,_,_,rfl,HFF.out,HBF.out⟩
end Go.Proofs.YtkhmjidaeliccaaGreatDoor
namespace Go.Proofs.YtkhmjidaeliccaaGreatDoor
open Go.RowKit Go.Maps Go.WideMaps Tl Pa
def smpC:Col:=⟨[⟨[97],[⟨16,32,2,false⟩]⟩,⟨[99],[⟨17,32,2,false⟩]⟩],[],100,32,2⟩
theorem smpC_sz:ColSz smpC:=by
 refine ⟨fun i hi=>?_,by simp [smpC],by simp [smpC]⟩
 have:i=0∨i=1:=by simp [smpC] at hi;omega
 rcases this with rfl | rfl <;> simp [smpC]
def RetCol (c:Col) (w:World) (e:Ending) (w':World):Prop:=∃A a B b,e=.returned (colV A c.ents.length a B c.grps.length b c)∧ColAt w' A c.ents.length B c.grps.length c∧Below w.heap.size w w'
theorem sl_set_ne {q:Nat} {cs:List Value} {W:World} (h:Sl W (some ⟨q,0,none⟩) cs) (p:Addr) (hp:p.block≠q) (v:Value):Sl (W.setCell p v) (some ⟨q,0,none⟩) cs:=
 Sl.stored h p (fun _ q' hq=>by have:=Option.some.inj (show some q=some q' from hq);omega) v
theorem sample_any (w:World):Calls Tryz.prog 33 #[] w (RetCol smpC w):=by
 have HX0:=Lib.hid (show Box (((w.alloc (.cells #[.slice none 0 0,.slice none 0 0,.int .i64 0,.int .i64 0,.int .i64 0] 32)).alloc (.cells #[.int .i64 16,.int .i64 32,.int .i64 2,.bool false] 77)).alloc (.cells #[.int .i64 17,.int .i64 32,.int .i64 2,.bool false] 77)) w.heap.size 32 [.slice none 0 0,.slice none 0 0,.int .i64 0,.int .i64 0,.int .i64 0] from ((Box.new w 32 [.slice none 0 0,.slice none 0 0,.int .i64 0,.int .i64 0,.int .i64 0] rfl).below ((Below.refl _ _).alloc (Nat.le_refl _) _) (by simp)).below ((Below.refl _ _).alloc (Nat.le_refl _) _) (by simp <;> omega))
 have HX1:=Lib.hid (show Box (((w.alloc (.cells #[.slice none 0 0,.slice none 0 0,.int .i64 0,.int .i64 0,.int .i64 0] 32)).alloc (.cells #[.int .i64 16,.int .i64 32,.int .i64 2,.bool false] 77)).alloc (.cells #[.int .i64 17,.int .i64 32,.int .i64 2,.bool false] 77)) (w.heap.size+1) 77 [.int .i64 16,.int .i64 32,.int .i64 2,.bool false] from (Box.new (w.alloc (.cells #[.slice none 0 0,.slice none 0 0,.int .i64 0,.int .i64 0,.int .i64 0] 32)) 77 [.int .i64 16,.int .i64 32,.int .i64 2,.bool false] (by simp)).below ((Below.refl _ _).alloc (Nat.le_refl _) _) (by simp))
 have HX2:=Lib.hid (show Box (((w.alloc (.cells #[.slice none 0 0,.slice none 0 0,.int .i64 0,.int .i64 0,.int .i64 0] 32)).alloc (.cells #[.int .i64 16,.int .i64 32,.int .i64 2,.bool false] 77)).alloc (.cells #[.int .i64 17,.int .i64 32,.int .i64 2,.bool false] 77)) (w.heap.size+2) 77 [.int .i64 17,.int .i64 32,.int .i64 2,.bool false] from Box.new ((w.alloc (.cells #[.slice none 0 0,.slice none 0 0,.int .i64 0,.int .i64 0,.int .i64 0] 32)).alloc (.cells #[.int .i64 16,.int .i64 32,.int .i64 2,.bool false] 77)) 77 [.int .i64 17,.int .i64 32,.int .i64 2,.bool false] (by simp))
 have HB:=Lib.hid (show Below w.heap.size w (((w.alloc (.cells #[.slice none 0 0,.slice none 0 0,.int .i64 0,.int .i64 0,.int .i64 0] 32)).alloc (.cells #[.int .i64 16,.int .i64 32,.int .i64 2,.bool false] 77)).alloc (.cells #[.int .i64 17,.int .i64 32,.int .i64 2,.bool false] 77)) from (((Below.refl _ _).alloc (Nat.le_refl _) _).alloc (by simp) _).alloc (by simp <;> omega) _)
 have WE:=Lib.hid (show ∃V,(((w.alloc (.cells #[.slice none 0 0,.slice none 0 0,.int .i64 0,.int .i64 0,.int .i64 0] 32)).alloc (.cells #[.int .i64 16,.int .i64 32,.int .i64 2,.bool false] 77)).alloc (.cells #[.int .i64 17,.int .i64 32,.int .i64 2,.bool false] 77))=V from ⟨_,rfl⟩)
 go_enter Tryz.func33,Tryz.ntmps33
 go_upto_region 2 with (fail)
 obtain ⟨V,hV⟩:=WE.out
 rw [hV] at HX0 HX1 HX2 HB ⊢
 clear hV
 have l0:=HX0.out.lt
 have l1:=HX1.out.lt
 have l2:=HX2.out.lt
 have a0:=HX1.out.cell (i:=0) rfl
 have a1:=HX1.out.cell (i:=1) rfl
 have a2:=HX1.out.cell (i:=2) rfl
 have a3:=HX1.out.cell (i:=3) rfl
 have b0:=HX2.out.cell (i:=0) rfl
 have b1:=HX2.out.cell (i:=1) rfl
 have b2:=HX2.out.cell (i:=2) rfl
 have b3:=HX2.out.cell (i:=3) rfl
 go_step
 go_step
 go_step
 go_step
 go_step
 go_step
 go_step
 go_step
 go_step
 go_step
 go_step
 go_step
 go_step
 go_step
 go_step
 go_step
 go_step
 go_step
 go_step
 go_step
 go_step
 go_step
 go_step
 go_step
 go_step
 go_step
 go_step
 go_step
 go_step
 go_step
 go_step
 go_step
 clear a0 a1 a2 a3 b0 b1 b2 b3
 have aL:∀(W:World) (o:Obj),Below W.heap.size W (W.alloc o):=fun W o=>(Below.refl _ _).alloc (Nat.le_refl _) _
 have r1:Sl (V.alloc (.cells #[.int .i64 97] 3)) (some ⟨V.heap.size,0,none⟩) [.int .i64 97]:=Sl_new V [.int .i64 97] 3 rfl
 have r2:Sl ((V.alloc (.cells #[.int .i64 97] 3)).alloc (.cells #[.int .i64 16,.int .i64 32,.int .i64 2,.bool false] 77)) (some ⟨V.heap.size+1,0,none⟩) [.int .i64 16,.int .i64 32,.int .i64 2,.bool false]:=Sl_new (V.alloc (.cells #[.int .i64 97] 3)) [.int .i64 16,.int .i64 32,.int .i64 2,.bool false] 77 (by simp)
 have r3:Sl (((V.alloc (.cells #[.int .i64 97] 3)).alloc (.cells #[.int .i64 16,.int .i64 32,.int .i64 2,.bool false] 77)).alloc (.cells #[.int .i64 99] 3)) (some ⟨V.heap.size+1+1,0,none⟩) [.int .i64 99]:=Sl_new ((V.alloc (.cells #[.int .i64 97] 3)).alloc (.cells #[.int .i64 16,.int .i64 32,.int .i64 2,.bool false] 77)) [.int .i64 99] 3 (by simp)
 have r4:Sl ((((V.alloc (.cells #[.int .i64 97] 3)).alloc (.cells #[.int .i64 16,.int .i64 32,.int .i64 2,.bool false] 77)).alloc (.cells #[.int .i64 99] 3)).alloc (.cells #[.int .i64 17,.int .i64 32,.int .i64 2,.bool false] 77)) (some ⟨V.heap.size+1+1+1,0,none⟩) [.int .i64 17,.int .i64 32,.int .i64 2,.bool false]:=Sl_new (((V.alloc (.cells #[.int .i64 97] 3)).alloc (.cells #[.int .i64 16,.int .i64 32,.int .i64 2,.bool false] 77)).alloc (.cells #[.int .i64 99] 3)) [.int .i64 17,.int .i64 32,.int .i64 2,.bool false] 77 (by simp)
 have r5:Sl (((((V.alloc (.cells #[.int .i64 97] 3)).alloc (.cells #[.int .i64 16,.int .i64 32,.int .i64 2,.bool false] 77)).alloc (.cells #[.int .i64 99] 3)).alloc (.cells #[.int .i64 17,.int .i64 32,.int .i64 2,.bool false] 77)).alloc (.cells #[.slice (some ⟨V.heap.size,0,none⟩) 1 1,.slice (some ⟨V.heap.size+1,0,none⟩) 1 1,.slice (some ⟨V.heap.size+1+1,0,none⟩) 1 1,.slice (some ⟨V.heap.size+1+1+1,0,none⟩) 1 1] 75)) (some ⟨V.heap.size+1+1+1+1,0,none⟩) [.slice (some ⟨V.heap.size,0,none⟩) 1 1,.slice (some ⟨V.heap.size+1,0,none⟩) 1 1,.slice (some ⟨V.heap.size+1+1,0,none⟩) 1 1,.slice (some ⟨V.heap.size+1+1+1,0,none⟩) 1 1]:=Sl_new ((((V.alloc (.cells #[.int .i64 97] 3)).alloc (.cells #[.int .i64 16,.int .i64 32,.int .i64 2,.bool false] 77)).alloc (.cells #[.int .i64 99] 3)).alloc (.cells #[.int .i64 17,.int .i64 32,.int .i64 2,.bool false] 77)) [.slice (some ⟨V.heap.size,0,none⟩) 1 1,.slice (some ⟨V.heap.size+1,0,none⟩) 1 1,.slice (some ⟨V.heap.size+1+1,0,none⟩) 1 1,.slice (some ⟨V.heap.size+1+1+1,0,none⟩) 1 1] 75 (by simp)
 have b5:Below V.heap.size V (((((V.alloc (.cells #[.int .i64 97] 3)).alloc (.cells #[.int .i64 16,.int .i64 32,.int .i64 2,.bool false] 77)).alloc (.cells #[.int .i64 99] 3)).alloc (.cells #[.int .i64 17,.int .i64 32,.int .i64 2,.bool false] 77)).alloc (.cells #[.slice (some ⟨V.heap.size,0,none⟩) 1 1,.slice (some ⟨V.heap.size+1,0,none⟩) 1 1,.slice (some ⟨V.heap.size+1+1,0,none⟩) 1 1,.slice (some ⟨V.heap.size+1+1+1,0,none⟩) 1 1] 75)):=(((((Below.refl _ _).alloc (Nat.le_refl _) _).alloc (by simp) _).alloc (by simp <;> omega) _).alloc (by simp <;> omega) _).alloc (by simp <;> omega) _
 have q1:=(((r1.below (aL _ _)).below (aL _ _)).below (aL _ _)).below (aL ((((V.alloc (.cells #[.int .i64 97] 3)).alloc (.cells #[.int .i64 16,.int .i64 32,.int .i64 2,.bool false] 77)).alloc (.cells #[.int .i64 99] 3)).alloc (.cells #[.int .i64 17,.int .i64 32,.int .i64 2,.bool false] 77)) (.cells #[.slice (some ⟨V.heap.size,0,none⟩) 1 1,.slice (some ⟨V.heap.size+1,0,none⟩) 1 1,.slice (some ⟨V.heap.size+1+1,0,none⟩) 1 1,.slice (some ⟨V.heap.size+1+1+1,0,none⟩) 1 1] 75))
 have q2:=((r2.below (aL _ _)).below (aL _ _)).below (aL ((((V.alloc (.cells #[.int .i64 97] 3)).alloc (.cells #[.int .i64 16,.int .i64 32,.int .i64 2,.bool false] 77)).alloc (.cells #[.int .i64 99] 3)).alloc (.cells #[.int .i64 17,.int .i64 32,.int .i64 2,.bool false] 77)) (.cells #[.slice (some ⟨V.heap.size,0,none⟩) 1 1,.slice (some ⟨V.heap.size+1,0,none⟩) 1 1,.slice (some ⟨V.heap.size+1+1,0,none⟩) 1 1,.slice (some ⟨V.heap.size+1+1+1,0,none⟩) 1 1] 75))
 have q3:=(r3.below (aL _ _)).below (aL ((((V.alloc (.cells #[.int .i64 97] 3)).alloc (.cells #[.int .i64 16,.int .i64 32,.int .i64 2,.bool false] 77)).alloc (.cells #[.int .i64 99] 3)).alloc (.cells #[.int .i64 17,.int .i64 32,.int .i64 2,.bool false] 77)) (.cells #[.slice (some ⟨V.heap.size,0,none⟩) 1 1,.slice (some ⟨V.heap.size+1,0,none⟩) 1 1,.slice (some ⟨V.heap.size+1+1,0,none⟩) 1 1,.slice (some ⟨V.heap.size+1+1+1,0,none⟩) 1 1] 75))
 have q4:=r4.below (aL ((((V.alloc (.cells #[.int .i64 97] 3)).alloc (.cells #[.int .i64 16,.int .i64 32,.int .i64 2,.bool false] 77)).alloc (.cells #[.int .i64 99] 3)).alloc (.cells #[.int .i64 17,.int .i64 32,.int .i64 2,.bool false] 77)) (.cells #[.slice (some ⟨V.heap.size,0,none⟩) 1 1,.slice (some ⟨V.heap.size+1,0,none⟩) 1 1,.slice (some ⟨V.heap.size+1+1,0,none⟩) 1 1,.slice (some ⟨V.heap.size+1+1+1,0,none⟩) 1 1] 75))
 clear r1 r2 r3 r4
 obtain ⟨U,hU⟩:∃U,(((((V.alloc (.cells #[.int .i64 97] 3)).alloc (.cells #[.int .i64 16,.int .i64 32,.int .i64 2,.bool false] 77)).alloc (.cells #[.int .i64 99] 3)).alloc (.cells #[.int .i64 17,.int .i64 32,.int .i64 2,.bool false] 77)).alloc (.cells #[.slice (some ⟨V.heap.size,0,none⟩) 1 1,.slice (some ⟨V.heap.size+1,0,none⟩) 1 1,.slice (some ⟨V.heap.size+1+1,0,none⟩) 1 1,.slice (some ⟨V.heap.size+1+1+1,0,none⟩) 1 1] 75))=U:=⟨_,rfl⟩
 rw [hU] at q1 q2 q3 q4 r5 b5 ⊢
 clear hU aL
 have X0:=HX0.out.below b5 l0
 have c0:=X0.cell (i:=0) rfl
 have c1:=X0.cell (i:=1) rfl
 have c2:=X0.cell (i:=2) rfl
 have c3:=X0.cell (i:=3) rfl
 have c4:=X0.cell (i:=4) rfl
 have f0:=X0.free 0
 have f1:=X0.free 1
 have f2:=X0.free 2
 have f3:=X0.free 3
 have f4:=X0.free 4
 have ZF:=(((((X0.set 0 (.slice (some ⟨V.heap.size+1+1+1+1,0,none⟩) 2 2)).set 1 (.slice none 0 0)).set 2 (.int .i64 100)).set 3 (.int .i64 32)).set 4 (.int .i64 2))
 have BF:Below w.heap.size w (((((U.setCell ⟨w.heap.size,0,none⟩ (.slice (some ⟨V.heap.size+1+1+1+1,0,none⟩) 2 2)).setCell ⟨w.heap.size,1,none⟩ (.slice none 0 0)).setCell ⟨w.heap.size,2,none⟩ (.int .i64 100)).setCell ⟨w.heap.size,3,none⟩ (.int .i64 32)).setCell ⟨w.heap.size,4,none⟩ (.int .i64 2)):=((((((HB.out.trans (b5.mono HB.out.size)).setCell (p:=⟨w.heap.size,0,none⟩) (Nat.le_refl _) (.slice (some ⟨V.heap.size+1+1+1+1,0,none⟩) 2 2)).setCell (p:=⟨w.heap.size,1,none⟩) (Nat.le_refl _) (.slice none 0 0)).setCell (p:=⟨w.heap.size,2,none⟩) (Nat.le_refl _) (.int .i64 100)).setCell (p:=⟨w.heap.size,3,none⟩) (Nat.le_refl _) (.int .i64 32)).setCell (p:=⟨w.heap.size,4,none⟩) (Nat.le_refl _) (.int .i64 2))
 have st:∀{q:Nat} {cs:List Value},Sl U (some ⟨q,0,none⟩) cs→w.heap.size≠q→Sl (((((U.setCell ⟨w.heap.size,0,none⟩ (.slice (some ⟨V.heap.size+1+1+1+1,0,none⟩) 2 2)).setCell ⟨w.heap.size,1,none⟩ (.slice none 0 0)).setCell ⟨w.heap.size,2,none⟩ (.int .i64 100)).setCell ⟨w.heap.size,3,none⟩ (.int .i64 32)).setCell ⟨w.heap.size,4,none⟩ (.int .i64 2)) (some ⟨q,0,none⟩) cs:=fun h hq=>(sl_set_ne (sl_set_ne (sl_set_ne (sl_set_ne (sl_set_ne h ⟨w.heap.size,0,none⟩ hq _) ⟨w.heap.size,1,none⟩ hq _) ⟨w.heap.size,2,none⟩ hq _) ⟨w.heap.size,3,none⟩ hq _) ⟨w.heap.size,4,none⟩ hq _)
 have R1:=Lib.hid (st q1 (by omega))
 have R2:=Lib.hid (st q2 (by omega))
 have R3:=Lib.hid (st q3 (by omega))
 have R4:=Lib.hid (st q4 (by omega))
 have R5:=Lib.hid (st r5 (by omega))
 have HZF:=Lib.hid ZF
 have HBF:=Lib.hid BF
 have HWE:=Lib.hid (show ∃Wf,(((((U.setCell ⟨w.heap.size,0,none⟩ (.slice (some ⟨V.heap.size+1+1+1+1,0,none⟩) 2 2)).setCell ⟨w.heap.size,1,none⟩ (.slice none 0 0)).setCell ⟨w.heap.size,2,none⟩ (.int .i64 100)).setCell ⟨w.heap.size,3,none⟩ (.int .i64 32)).setCell ⟨w.heap.size,4,none⟩ (.int .i64 2))=Wf from ⟨_,rfl⟩)
 clear st q1 q2 q3 q4 r5 ZF BF X0 b5
 go_wp2_with fail
 obtain ⟨Wf,hWf⟩:=HWE.out
 rw [hWf] at R1 R2 R3 R4 R5 HZF HBF ⊢
 clear hWf
 (try simp only [Exit.inBlock,Exit.then])
 refine bodyPost_ret (results_colk (k:=0) rfl _ _ (b:=w.heap.size) rfl (HZF.out.cell (i:=0) rfl) (HZF.out.cell (i:=1) rfl) (HZF.out.cell (i:=2) rfl) (HZF.out.cell (i:=3) rfl) (HZF.out.cell (i:=4) rfl)) rfl ?_
 refine ⟨_,2,none,0,rfl,⟨⟨[(.slice (some ⟨V.heap.size,0,none⟩) 1 1,.slice (some ⟨V.heap.size+1,0,none⟩) 1 1),(.slice (some ⟨V.heap.size+1+1,0,none⟩) 1 1,.slice (some ⟨V.heap.size+1+1+1,0,none⟩) 1 1)],rfl,R5.out,fun i hi hv=>?_⟩,Sl.nil _ _,rfl,rfl,fun g hg=>by cases hg⟩,HBF.out⟩
 have hi2:i=0∨i=1:=by simp [smpC] at hi;omega
 rcases hi2 with rfl | rfl
 ·exact ⟨_,_,_,_,rfl,R1.out,R2.out⟩
 ·exact ⟨_,_,_,_,rfl,R3.out,R4.out⟩
theorem eql_fault (a b c d:Int) (w:World):(binOp .eql 47 (.agg #[.int .i64 a,.int .i64 b]) (.agg #[.int .i64 c,.int .i64 d])).run Tryz.prog w=.ok (.bool (decide ((a,b)=(c,d)))) w:=by
 have u3:=Tryz.underlying3
 have a3:=Tryz.isAgg3
 have z3:=Tryz.sizeOf3
 have u4:=Tryz.underlying40
 have a4:=Tryz.isAgg40
 have z4:=Tryz.sizeOf40
 have hS:Tryz.prog.underlying 47=some (.struct (Tryz.prog.fieldsOf 47)):=by kernel_rfl
 have hp:Tryz.prog.stoodInHeld 47=false:=by kernel_rfl
 rw [run_eql_struct,show (10000:Nat)=9999+1 from rfl,run_equalIn_agg w 9999 47 _ _ hS hp]
 simp only [Program.fieldsOf,Tryz.underlying47]
 go_simp
 by_cases h2:a=c <;> by_cases h3:b=d <;> simp [h2,h3]
theorem neq_fault (a b c d:Int) (w:World):(binOp .neq 47 (.agg #[.int .i64 a,.int .i64 b]) (.agg #[.int .i64 c,.int .i64 d])).run Tryz.prog w=.ok (.bool (!decide ((a,b)=(c,d)))) w:=by
 have u3:=Tryz.underlying3
 have a3:=Tryz.isAgg3
 have z3:=Tryz.sizeOf3
 have u4:=Tryz.underlying40
 have a4:=Tryz.isAgg40
 have z4:=Tryz.sizeOf40
 have hS:Tryz.prog.underlying 47=some (.struct (Tryz.prog.fieldsOf 47)):=by kernel_rfl
 have hp:Tryz.prog.stoodInHeld 47=false:=by kernel_rfl
 rw [run_neq_struct,show (10000:Nat)=9999+1 from rfl,run_equalIn_agg w 9999 47 _ _ hS hp]
 simp only [Program.fieldsOf,Tryz.underlying47]
 go_simp
 by_cases h2:a=c <;> by_cases h3:b=d <;> simp [h2,h3]
abbrev nil0:Nrm:=⟨[],[],[]⟩
theorem nil0_sz:NrmSz nil0:=⟨by simp,⟨by simp,fun i hi=>absurd hi (Nat.not_lt_zero _)⟩,by simp⟩
theorem al_p1:parseF ⟨#[38,32,40,48,48,54,49,41,32,60,32,40,48,48,54,50,41]⟩=([⟨[97],[98],1,false⟩],0,0):=by kernel_rfl
theorem al_p2:parseF ⟨#[38,32,40,48,48,54,49,41,32,60,32,60,32,40,48,48,54,50,41]⟩=([],3,11):=by kernel_rfl
def alC:Col:=⟨[⟨[97],[⟨16,32,2,false⟩]⟩,⟨[98],[⟨17,32,2,false⟩]⟩,⟨[99],[⟨18,32,2,false⟩]⟩],[],101,32,2⟩
theorem al_ap:applyF nil0 smpC [⟨[97],[98],1,false⟩] 0=(0,0,alC):=by kernel_rfl
theorem alive_any (w:World) (hL:Laid w):Calls Tryz.prog 12 #[] w (RetTrue w):=by
 have LD:=Lib.hid (fun W (hb:Below w.heap.size w W)=>hL.below hb)
 have P1:=Lib.hid (fun W=>parse_any ⟨#[38,32,40,48,48,54,49,41,32,60,32,40,48,48,54,50,41]⟩ W (by decide))
 have P2:=Lib.hid (fun W=>parse_any ⟨#[38,32,40,48,48,54,49,41,32,60,32,60,32,40,48,48,54,50,41]⟩ W (by decide))
 rw [al_p1] at P1
 rw [al_p2] at P2
 have PS:=Lib.hid (fun W=>sample_any W)
 have PA:=Lib.hid (fun W A a B b K k (hL:Laid W) (hC:ColAt W A 2 B 0 smpC) (hK:Tlrs W K [⟨[97],[98],1,false⟩])=>apply_any none 0 0 none 0 0 none 0 0 nil0 A 2 a B 0 b smpC K k [⟨[97],[98],1,false⟩] W (NrmAt.empty W) nil0_sz hL hC smpC_sz hK (by intro t ht;simp at ht;subst ht;refine ⟨by simp,by simp,fun z hz=>?_,fun z hz=>?_⟩ <;> simp at hz <;> subst hz <;> rfl) (by simp))
 rw [al_ap] at PA
 unfold RetParse at P1 P2
 unfold RetCol colV at PS
 unfold RetApp colV at PA
 have EQ:=eql_fault
 have NE:=neq_fault
 dsimp only [List.length_cons,List.length_nil,Nat.reduceAdd,smpC,alC] at P1 P2 PS PA
 clear hL
 go_enter Tryz.func12,Tryz.ntmps12
 go_wp2_with fail
 with_reducible refine (P1.out _).mono ?_
 rintro e Y1 ⟨K1,k1,rfl,h1,hb1⟩
 have HT1:=Lib.hid h1
 have XF:=Box.new Y1 47 [.int .i64 0,.int .i64 0] rfl
 have BA:=hb1.alloc hb1.size (.cells #[.int .i64 0,.int .i64 0] 47)
 have BB:=(Below.refl Y1.heap.size Y1).alloc (Nat.le_refl _) (.cells #[.int .i64 0,.int .i64 0] 47)
 have WE:=Lib.hid (show ∃V,Y1.alloc (.cells #[.int .i64 0,.int .i64 0] 47)=V from ⟨_,rfl⟩)
 obtain ⟨n2,hn2⟩:∃n,Y1.heap.size=n:=⟨_,rfl⟩
 clear hb1 h1 P1
 go_upto_region 2 with (fail)
 obtain ⟨Y2,hY2⟩:=WE.out
 change Box (Y1.alloc (.cells #[.int .i64 0,.int .i64 0] 47)) Y1.heap.size 47 [.int .i64 0,.int .i64 0] at XF
 rw [hY2] at XF BA BB ⊢
 clear hY2 WE
 have HX2:=Lib.hid XF
 have HB2:=Lib.hid BA
 have HT2:=Lib.hid (HT1.out.below BB)
 clear XF BA BB HT1
 rw [hn2] at HX2
 clear hn2
 go_wp2_with fail
 with_reducible refine (P2.out _).mono ?_
 rintro e Y3 ⟨K2,k2,rfl,-,hb3⟩
 have BA:=(HB2.out.trans (hb3.mono HB2.out.size)).alloc (HB2.out.trans (hb3.mono HB2.out.size)).size (.cells #[.int .i64 3,.int .i64 11] 47)
 have XF:Box (Y3.alloc (.cells #[.int .i64 3,.int .i64 11] 47)) Y3.heap.size 47 [.int .i64 3,.int .i64 11]:=Box.new Y3 47 [.int .i64 3,.int .i64 11] rfl
 have B3:Below Y2.heap.size Y2 (Y3.alloc (.cells #[.int .i64 3,.int .i64 11] 47)):=hb3.alloc hb3.size _
 have WE:=Lib.hid (show ∃V,Y3.alloc (.cells #[.int .i64 3,.int .i64 11] 47)=V from ⟨_,rfl⟩)
 obtain ⟨n4,hn4⟩:∃n,Y3.heap.size=n:=⟨_,rfl⟩
 clear hb3 P2
 go_upto_region 3 with (fail)
 obtain ⟨Y4,hY4⟩:=WE.out
 rw [hY4] at XF BA B3 ⊢
 clear hY4 WE
 have HX4:=Lib.hid XF
 have HX2a:=Lib.hid (HX2.out.below B3 HX2.out.lt)
 have HT3:=Lib.hid (HT2.out.below B3)
 have HB4:=Lib.hid BA
 clear XF BA B3 HT2 HX2 HB2
 rw [hn4] at HX4
 clear hn4
 go_wp2_with fail
 with_reducible refine (PS.out _).mono ?_
 rintro e Y5 ⟨A,a,B,b,rfl,hC,hb5⟩
 have HB5:=Lib.hid (HB4.out.trans (hb5.mono HB4.out.size))
 have PA2:=Lib.hid (PA.out Y5 A a B b K1 k1 (LD.out _ HB5.out) hC (HT3.out.below hb5))
 have HX4a:=Lib.hid (HX4.out.below hb5 HX4.out.lt)
 have HX2b:=Lib.hid (HX2a.out.below hb5 HX2a.out.lt)
 clear PA PS LD hC HT3 HX4 HX2a HB4 hb5
 go_wp2_with fail
 with_reducible refine PA2.out.mono ?_
 rintro e Y6 ⟨A',a',B',b',rfl,hC,hb6⟩
 have HB6:=Lib.hid (HB5.out.trans (hb6.mono HB5.out.size))
 have HX4b:=Lib.hid (HX4a.out.below hb6 HX4a.out.lt)
 have HX2c:=Lib.hid (HX2b.out.below hb6 HX2b.out.lt)
 obtain ⟨eb,eo,rfl,heb,hat⟩:=hC.ents.at (m:=0) (by show 0 < 3;omega)
 obtain ⟨C1,c1,Ea,d1,-,ea,-,el1⟩:=hat 1 (by show 1 < 3;omega)
 obtain ⟨C2,c2,Eb,d2,-,ec,-,el2⟩:=hat 2 (by show 2 < 3;omega)
 obtain ⟨p1,o1,rfl,hp1,hq1⟩:=el1.at (m:=0) (by show 0 < 1;omega)
 obtain ⟨p2,o2,rfl,hp2,hq2⟩:=el2.at (m:=0) (by show 0 < 1;omega)
 have qa:=(hq1 0 (by show 0 < 1;omega)).1
 have qb:=(hq2 0 (by show 0 < 1;omega)).1
 change Y6.cell? ⟨eb,eo+1*2+1,none⟩=some (.slice (some ⟨p1,o1,none⟩) 1 d1) at ea
 change Y6.cell? ⟨eb,eo+2*2+1,none⟩=some (.slice (some ⟨p2,o2,none⟩) 1 d2) at ec
 change Y6.cell? ⟨p1,o1+0*4,none⟩=some (.int .i64 17) at qa
 change Y6.cell? ⟨p2,o2+0*4,none⟩=some (.int .i64 18) at qb
 simp only [Nat.reduceMul,Nat.add_zero] at ea ec qa qb
 have XC:Box ((Y6.alloc (.cells #[.slice (some ⟨eb,eo,none⟩) 3 a',.slice B' 0 b',.int .i64 101,.int .i64 32,.int .i64 2] 32)).alloc (.cells #[.int .i64 0,.int .i64 0] 47)) Y6.heap.size 32 [.slice (some ⟨eb,eo,none⟩) 3 a',.slice B' 0 b',.int .i64 101,.int .i64 32,.int .i64 2]:=bx_alloc (Box.new Y6 32 [.slice (some ⟨eb,eo,none⟩) 3 a',.slice B' 0 b',.int .i64 101,.int .i64 32,.int .i64 2] rfl) _
 have XF:Box ((Y6.alloc (.cells #[.slice (some ⟨eb,eo,none⟩) 3 a',.slice B' 0 b',.int .i64 101,.int .i64 32,.int .i64 2] 32)).alloc (.cells #[.int .i64 0,.int .i64 0] 47)) (Y6.heap.size+1) 47 [.int .i64 0,.int .i64 0]:=Box.new _ 47 [.int .i64 0,.int .i64 0] (by simp)
 have BF:Below Y6.heap.size Y6 ((Y6.alloc (.cells #[.slice (some ⟨eb,eo,none⟩) 3 a',.slice B' 0 b',.int .i64 101,.int .i64 32,.int .i64 2] 32)).alloc (.cells #[.int .i64 0,.int .i64 0] 47)):=((Below.refl _ _).alloc (Nat.le_refl _) _).alloc (by simp) _
 have WE:=Lib.hid (show ∃V,((Y6.alloc (.cells #[.slice (some ⟨eb,eo,none⟩) 3 a',.slice B' 0 b',.int .i64 101,.int .i64 32,.int .i64 2] 32)).alloc (.cells #[.int .i64 0,.int .i64 0] 47))=V from ⟨_,rfl⟩)
 have sa:=(BF.cell (p:=⟨eb,eo+2+1,none⟩) heb).trans ea
 have sb:=(BF.cell (p:=⟨eb,eo+4+1,none⟩) heb).trans ec
 have sc:=(BF.cell (p:=⟨p1,o1,none⟩) hp1).trans qa
 have sd:=(BF.cell (p:=⟨p2,o2,none⟩) hp2).trans qb
 clear hC hb6 hat el1 el2 hq1 hq2 ea ec qa qb heb hp1 hp2 PA2
 go_upto_region 4 with (fail)
 obtain ⟨Y7,hY7⟩:=WE.out
 rw [hY7] at XC XF BF sa sb sc sd ⊢
 clear hY7 WE
 have x2:=HX2c.out.below BF HX2c.out.lt
 have x4:=HX4b.out.below BF HX4b.out.lt
 have BW:=HB6.out.trans (BF.mono HB6.out.size)
 have a0:=XC.cell (i:=0) rfl
 have a1:=XC.cell (i:=1) rfl
 have a2:=XC.cell (i:=2) rfl
 have a3:=XC.cell (i:=3) rfl
 have a4:=XC.cell (i:=4) rfl
 have b0:=XF.cell (i:=0) rfl
 have b1:=XF.cell (i:=1) rfl
 have c0:=x2.cell (i:=0) rfl
 have c1:=x2.cell (i:=1) rfl
 have d0:=x4.cell (i:=0) rfl
 have d1:=x4.cell (i:=1) rfl
 have n1:=fun W=>(neq_fault 0 0 0 0 W).trans (by rfl)
 have n2':=fun W=>(eql_fault 3 11 3 11 W).trans (by rfl)
 have HBW:=Lib.hid BW
 clear XC XF BF x2 x4 BW HX2c HX4b HB6 HB5 HX4a HX2b EQ NE
 go_wp2_with fail
 go_ret
 exact ⟨rfl,HBW.out⟩
end Go.Proofs.YtkhmjidaeliccaaGreatDoor
