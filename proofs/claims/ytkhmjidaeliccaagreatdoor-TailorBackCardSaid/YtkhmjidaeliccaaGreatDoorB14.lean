/- Texts that are merged into one file: CkColl, RefColl, Key, Tab, Made, Find, TClass. -/
import Derived.Test.YtkhmjidaeliccaaGreatDoorB02
import Derived.Test.YtkhmjidaeliccaaGreatDoorB03
import Derived.Test.YtkhmjidaeliccaaGreatDoorB05
import Derived.Test.YtkhmjidaeliccaaGreatDoorB07
import Derived.Test.YtkhmjidaeliccaaGreatDoorB13
import Derived.Laws.IdiomCopy
import Derived.WideKeyArr
import Derived.RegionTactic
import Derived.BigQuiet
set_option maxRecDepth 100000
set_option maxHeartbeats 51200000
namespace Go.Proofs.YtkhmjidaeliccaaGreatDoor
open Go.RowKit Go.Maps Go.WideMaps
def prevE (es:List Ent):Nat→Option Ent
 | 0=>none
 | j+1=>es[j]?
def entI (base:Int) (es:List Ent) (i:Nat):Int:=
 match es[i]? with
 | none=>0
 | some x=>if entErr1 base x≠0 then entErr1 base x else match prevE es i with
  | none=>0
  | some y=>if 0≤cmpL y.codes x.codes then 4 else 0
theorem ents_step (base:Int) (es:List Ent) (i:Nat) (hi:i < es.length) :
  entsErr base (es.drop i) (prevE es i)=if entI base es i≠0 then entI base es i else entsErr base (es.drop (i+1)) (prevE es (i+1)):=by
 rw [List.drop_eq_getElem_cons hi]
 unfold entI
 rw [List.getElem?_eq_getElem hi]
 have hp:prevE es (i+1)=some es[i]:=List.getElem?_eq_getElem hi
 rw [hp]
 simp only [entsErr]
 by_cases h1:entErr1 base es[i]=0
 ·simp only [h1,ne_eq,not_true_eq_false,if_false]
  cases prevE es i with
  | none=>simp
  | some y=>
   simp only
   by_cases h2:0≤cmpL y.codes es[i].codes
   ·simp [h2]
   ·simp [h2]
 ·simp [h1]
theorem ents_end (base:Int) (es:List Ent) (i:Nat) (hi:es.length≤i):entsErr base (es.drop i) (prevE es i)=0:=by
 rw [List.drop_eq_nil_of_le hi];rfl
section
variable {base:Int} {es:List Ent} {i:Nat}
theorem entI_1 (hi:i < es.length) (h:entErr1 base es[i]≠0):entI base es i=entErr1 base es[i]:=by
 unfold entI;rw [List.getElem?_eq_getElem hi];simp [h]
theorem entI_0 (hi:0 < es.length) (h:entErr1 base es[0]=0):entI base es 0=0:=by
 unfold entI;rw [List.getElem?_eq_getElem hi];simp [h,prevE]
theorem entI_4 (hi:i+1 < es.length) (h:entErr1 base es[i+1]=0) (h4:0≤cmpL es[i].codes es[i+1].codes):entI base es (i+1)=4:=by
 unfold entI;rw [List.getElem?_eq_getElem hi];simp [h,prevE,List.getElem?_eq_getElem (show i < es.length by omega),h4]
theorem entI_ok (hi:i+1 < es.length) (h:entErr1 base es[i+1]=0) (h4:¬0≤cmpL es[i].codes es[i+1].codes):entI base es (i+1)=0:=by
 unfold entI;rw [List.getElem?_eq_getElem hi];simp [h,prevE,List.getElem?_eq_getElem (show i < es.length by omega),h4]
end
structure ColSz (c:Col):Prop where
 e:∀i,(hi:i < c.ents.length)→c.ents[i].codes.length≤1048576∧c.ents[i].elems.length≤1048576
 n:c.ents.length≤1048576
 m:c.grps.length≤1048576
section
variable {c:Col}
theorem col1 (h:c.base < 1∨65502 < c.base∨inR 1 65535 c.second=false∨inR 1 65535 c.third=false):colErr c=1:=by unfold colErr;rw [if_pos h]
theorem colG (h:¬(c.base < 1∨65502 < c.base∨inR 1 65535 c.second=false∨inR 1 65535 c.third=false)) (hg:grpErr c.base c.grps≠0):colErr c=grpErr c.base c.grps:=by
 unfold colErr;rw [if_neg h,if_pos hg]
theorem colE (h:¬(c.base < 1∨65502 < c.base∨inR 1 65535 c.second=false∨inR 1 65535 c.third=false)) (hg:grpErr c.base c.grps=0):colErr c=entsErr c.base c.ents none:=by
 unfold colErr;rw [if_neg h,if_neg (by simpa using hg)]
end
theorem ckColl_any (A:Option Addr) (n a:Nat) (B:Option Addr) (m b:Nat) (c:Col) (w:World) (h:ColAt w A n B m c) (hz:ColSz c) :
  Calls Tryz.prog 23 #[colV A n a B m b c] w (RetInt (colErr c) w):=by
 have B0:Below w.heap.size w (w.alloc (.cells #[.slice A n a,.slice B m b,.int .i64 c.base,.int .i64 c.second,.int .i64 c.third] 32)):=(Below.refl _ _).alloc (Nat.le_refl _) _
 have H1:=Lib.hid (col1 (c:=c))
 have HG:=Lib.hid (colG (c:=c))
 have HE:=Lib.hid (colE (c:=c))
 have CG:=Lib.hid (fun W (hb:Below w.heap.size w W) (h65:c.base≤65502)=>ckGroups_any A n a B m b c W (h.below hb) h65 (by rw [←h.hm];exact hz.m))
 obtain ⟨es,gs,base,second,third⟩:=c
 dsimp only at *
 unfold colV at *
 dsimp only at *
 have CI:=Lib.hid isWeight_any
 have HEN:=Lib.hid h.ents
 have hnn:=h.hn
 have HSZ:=Lib.hid hz
 dsimp only at hnn
 subst hnn
 clear h hz
 by_cases q1:base < 1
 ·have HQ:=Lib.hid (H1.out (.inl q1))
  go_enter Tryz.func23,Tryz.ntmps23
  go_wp2_with fail
  go_ret
  exact ⟨ret_int HQ.out.symm,B0⟩
 ·by_cases q2:65502 < base
  ·have HQ:=Lib.hid (H1.out (.inr (.inl q2)))
   go_enter Tryz.func23,Tryz.ntmps23
   go_wp2_with fail
   go_ret
   exact ⟨ret_int HQ.out.symm,B0⟩
  ·cases q3:inR 1 65535 second
   ·have HQ:=Lib.hid (H1.out (.inr (.inr (.inl q3))))
    go_enter Tryz.func23,Tryz.ntmps23
    go_wp2_with fail
    refine (CI.out second _).mono ?_
    rw [q3];rintro e w' ⟨rfl,rfl⟩
    go_wp2_with fail
    go_ret
    exact ⟨ret_int HQ.out.symm,B0⟩
   ·cases q4:inR 1 65535 third
    ·have HQ:=Lib.hid (H1.out (.inr (.inr (.inr q4))))
     go_enter Tryz.func23,Tryz.ntmps23
     go_wp2_with fail
     refine (CI.out second _).mono ?_
     rw [q3];rintro e w' ⟨rfl,rfl⟩
     go_wp2_with fail
     refine (CI.out third _).mono ?_
     rw [q4];rintro e w' ⟨rfl,rfl⟩
     go_wp2_with fail
     go_ret
     exact ⟨ret_int HQ.out.symm,B0⟩
    ·have hno:¬(base < 1∨65502 < base∨inR 1 65535 second=false∨inR 1 65535 third=false):=by rw [q3,q4];simp;omega
     have HG':=Lib.hid (HG.out hno);have HE':=Lib.hid (HE.out hno)
     clear HG HE H1 hno
     go_enter Tryz.func23,Tryz.ntmps23
     go_wp2_with fail
     refine (CI.out second _).mono ?_
     rw [q3];rintro e w' ⟨rfl,rfl⟩
     go_wp2_with fail
     refine (CI.out third _).mono ?_
     rw [q4];rintro e w' ⟨rfl,rfl⟩
     go_wp2_with fail
     have s0:(w.alloc (.cells #[.slice A es.length a,.slice B m b,.int .i64 base,.int .i64 second,.int .i64 third] 32)).heap.size=w.heap.size+1:=by simp
     have k0:(w.alloc (.cells #[.slice A es.length a,.slice B m b,.int .i64 base,.int .i64 second,.int .i64 third] 32)).cell? ⟨w.heap.size,0,none⟩=some (.slice A es.length a):=by simp
     have k2:(w.alloc (.cells #[.slice A es.length a,.slice B m b,.int .i64 base,.int .i64 second,.int .i64 third] 32)).cell? ⟨w.heap.size,2,none⟩=some (.int .i64 base):=by simp
     obtain ⟨W0,hW0⟩:∃W0,w.alloc (.cells #[.slice A es.length a,.slice B m b,.int .i64 base,.int .i64 second,.int .i64 third] 32)=W0:=⟨_,rfl⟩
     rw [hW0] at B0 s0 k0 k2 ⊢
     clear hW0
     have HEN0:=Lib.hid (HEN.out.below B0)
     have K:=Lib.hid (And.intro k0 k2)
     have hx0:w.heap.size < W0.heap.size:=by omega
     clear HEN k0 k2 s0 q3 q4 CI
     refine (CG.out W0 B0 (by omega)).mono ?_
     rintro e W1 ⟨rfl,hb1⟩
     clear CG
     by_cases hgz:grpErr base gs=0
     ·have g1:(grpErr base gs != 0)=false:=by simpa using hgz
      have HQ:=Lib.hid (HE'.out hgz)
      clear hgz HG' HE'
      generalize grpErr base gs=ge at *
      generalize colErr ⟨es,gs,base,second,third⟩=R at *
      have f0:=(hb1.cell (p:=⟨w.heap.size,0,none⟩) hx0).trans K.out.1
      go_wp2_with fail
      clear f0
      go_loopw [4,5,6,35] (fun _ _ _ u wr=>∃i:Nat,i≤es.length∧u=.int .i64 i∧entsErr base es none=entsErr base (es.drop i) (prevE es i)∧Below W0.heap.size W0 wr) (fun _ _ _ u _=>es.length - (intOf u).toNat)
      case atStart=>exact ⟨0,Nat.zero_le _,rfl,rfl,hb1⟩
      case round=>
       obtain ⟨i,hi,rfl,hen,hb⟩:=hrel
       have HEE:=Lib.hid hen;clear hen hb1
       by_cases hlt:i < es.length
       ·obtain ⟨b1,o1,rfl,hbl,hcell⟩:=(HEN0.out.below hb).at hlt
        obtain ⟨C,cc,E,d,c1,c2,hC,hE⟩:=hcell i hlt
        obtain ⟨z1,z2⟩:=HSZ.out.e i hlt
        dsimp only at z1 z2
        have f2:=(hb.cell (p:=⟨w.heap.size,2,none⟩) hx0).trans K.out.2
        have f0:=(hb.cell (p:=⟨w.heap.size,0,none⟩) hx0).trans K.out.1
        have hx1:w.heap.size < wr.heap.size:=by have:=hb.size;omega
        have hnz:es.length≤1048576:=HSZ.out.n
        have ST:=Lib.hid (ents_step base es i hlt)
        have E1:=Lib.hid (fun h=>entI_1 (base:=base) hlt h)
        have HPV:=Lib.hid (show 0 < i→∃D dd,wr.cell? ⟨b1,o1+(i - 1)*2,none⟩=some (.slice D (es[i - 1]'(by omega)).codes.length dd)∧Ints wr D (es[i - 1]'(by omega)).codes∧(es[i - 1]'(by omega)).codes.length≤1048576∧(entErr1 base es[i]=0→(0≤cmpL (es[i - 1]'(by omega)).codes es[i].codes→entI base es i=4)∧(¬0≤cmpL (es[i - 1]'(by omega)).codes es[i].codes→entI base es i=0)) from fun hp=>by
         obtain ⟨j,rfl⟩:∃j,i=j+1:=⟨i - 1,by omega⟩
         obtain ⟨D,dd,_,_,e1,_,e3,_⟩:=hcell j (by omega)
         exact ⟨D,dd,e1,e3,(HSZ.out.e j (show j < es.length by omega)).1,fun hz=>⟨fun h=>entI_4 hlt hz h,fun h=>entI_ok hlt hz h⟩⟩)
        have HP0:=Lib.hid (show ¬0 < i→entErr1 base es[i]=0→entI base es i=0 from fun hp hz=>by
         obtain rfl:i=0:=by omega
         exact entI_0 hlt hz)
        have CE:=Lib.hid (fun W (hb':Below wr.heap.size wr W)=>ckEntry_any C cc E d es[i] base W (hC.below hb') (hE.below hb') z1 z2)
        clear hcell hE
        generalize entErr1 base es[i]=ev at *
        generalize es[i].elems=els at *
        generalize es[i].codes=cds at *
        generalize entI base es i=ei at *
        have hal:Below wr.heap.size wr (wr.alloc (.cells #[.slice C cds.length cc,.slice E els.length d] 75)):=(Below.refl _ _).alloc (Nat.le_refl _) _
        have m0:(wr.alloc (.cells #[.slice C cds.length cc,.slice E els.length d] 75)).cell? ⟨wr.heap.size,0,none⟩=some (.slice C cds.length cc):=by simp
        have HAL:=Lib.hid (And.intro hal m0)
        clear hal m0
        go_wp2_with fail
        refine (CE.out _ HAL.out.1).mono ?_
        rintro e w3 ⟨rfl,hb3⟩
        have hb4:=HAL.out.1.trans (hb3.mono (by simp))
        have hb5:=hb.trans (hb4.mono hb.size)
        have m1:=(hb3.cell (p:=⟨wr.heap.size,0,none⟩) (by simp)).trans HAL.out.2
        have f0':=(hb5.cell (p:=⟨w.heap.size,0,none⟩) hx0).trans K.out.1
        clear HAL hb3 CE c1 c2 f0 f2
        by_cases hev:ev=0
        ·have e1:(ev != 0)=false:=by simpa using hev
         by_cases hp:0 < i
         ·obtain ⟨D,dd,d1,hD,z3,hcmp⟩:=HPV.out hp
          have HCMP:=Lib.hid (hcmp hev)
          have d1':=(hb4.cell (p:=⟨b1,o1+(i - 1)*2,none⟩) (World.block_lt_of_cell? wr _ d1)).trans d1
          have CC:=Lib.hid (fun n=>cpCompare_any D C _ _ dd cc _ cds (w3.drewN n) (Sl.drewN (hD.below hb4) n) (Sl.drewN (hC.below hb4) n) rfl rfl (by omega) (by omega))
          clear hcmp hev E1 HPV HP0 hD d1
          generalize (es[i - 1]'(by omega)).codes=pcs at *
          generalize cmpL pcs cds=cv at *
          have i1:(0:Int)≤(i:Int) - 1:=by omega
          have i2:(i:Int) - 1 < (es.length:Int):=by omega
          have i3:((i:Int) - 1).toNat=i - 1:=by omega
          have w1:IntKind.i64.wrap ((i:Int) - 1)=(i:Int) - 1:=IntWalk.i64_in _ (by omega)
          by_cases hcv:0≤cv
          ·have q9:decide (0≤cv)=true:=by simpa using hcv
           have HV:=Lib.hid (HCMP.out.1 (by omega))
           clear hcv HCMP
           go_wp2_with fail
           go_quiet ((go_at_call 70;exact quiet_qt (CC.out _)))
           clear i3 w1
           go_wp2_with fail
           go_ret
           exact ⟨ret_int (by rw [HQ.out,HEE.out,ST.out,HV.out];rfl),B0.trans ((below_drewN hb5 _).mono B0.size)⟩
          ·have q9:decide (0≤cv)=false:=by simpa using hcv
           have HV:=Lib.hid (HCMP.out.2 (by omega))
           clear hcv HCMP
           go_wp2_with fail
           go_quiet ((go_at_call 70;exact quiet_qt (CC.out _)))
           clear i3 w1
           go_wp2_with fail
           go_roundw
           case rel=>exact ⟨i+1,by omega,by go_num,by rw [HEE.out,ST.out,HV.out];rfl,below_drewN hb5 _⟩
           case measure=>simp [intOf];omega
         ·have hp0:decide ((0:Int) < (i:Int))=false:=by simp;omega
          have HV:=Lib.hid (HP0.out hp hev)
          clear hev E1 HPV HP0
          go_wp2_with fail
          go_quiet (fail)
          go_wp2_with fail
          go_roundw
          case rel=>exact ⟨i+1,by omega,by go_num,by rw [HEE.out,ST.out,HV.out];rfl,below_drewN hb5 _⟩
          case measure=>simp [intOf];omega
        ·have e1:(ev != 0)=true:=by simpa using hev
         have HV:=Lib.hid (E1.out hev)
         have HZ:=Lib.hid hev
         clear hev E1 HPV HP0
         go_wp2_with fail
         go_ret
         exact ⟨ret_int (by rw [HQ.out,HEE.out,ST.out,HV.out,if_pos HZ.out]),B0.trans (hb5.mono B0.size)⟩
       ·have HF:=Lib.hid (ents_end base es i (by omega))
        go_wp2
        go_ret
        exact ⟨ret_int (by rw [HQ.out,HEE.out,HF.out]),B0.trans (hb.mono B0.size)⟩
     ·have g1:(grpErr base gs != 0)=true:=by simpa using hgz
      have HQ:=Lib.hid (HG'.out hgz)
      clear hgz HG' HE'
      generalize grpErr base gs=ge at *
      go_wp2_with fail
      go_ret
      exact ⟨ret_int HQ.out.symm,B0.trans (hb1.mono B0.size)⟩
end Go.Proofs.YtkhmjidaeliccaaGreatDoor
namespace Go.Proofs.YtkhmjidaeliccaaGreatDoor
open Go.RowKit Go.Maps Go.WideMaps
end Go.Proofs.YtkhmjidaeliccaaGreatDoor
namespace Go.Proofs.YtkhmjidaeliccaaGreatDoor
open Go.RowKit Go.Maps Go.WideMaps
def keyL (zs:List Int):List Int:=(zs.length:Int)::(zs++List.replicate (8 - zs.length) 0)
def keyV (zs:List Int):Value:=.agg ((keyL zs).map (Value.int .i64)).toArray
def RetKey (zs:List Int) (w:World) (e:Ending) (w':World):Prop:=e=.returned (keyV zs)∧Below w.heap.size w w'
theorem info_int1:(Tryz.prog.info? 3).map (·.size)=some 1:=by kernel_rfl
theorem results_key (tmps:Array Value) (w:World) {b:Nat} {z0 z1 z2 z3 z4 z5 z6 z7 z8:Int} (ha:tmps.getD 2 undef=.pointer (some ⟨b,0,none⟩))
  (c0:w.cell? ⟨b,0,none⟩=some (.int .i64 z0)) (c1:w.cell? ⟨b,1,none⟩=some (.int .i64 z1)) (c2:w.cell? ⟨b,2,none⟩=some (.int .i64 z2)) (c3:w.cell? ⟨b,3,none⟩=some (.int .i64 z3)) (c4:w.cell? ⟨b,4,none⟩=some (.int .i64 z4)) (c5:w.cell? ⟨b,5,none⟩=some (.int .i64 z5)) (c6:w.cell? ⟨b,6,none⟩=some (.int .i64 z6)) (c7:w.cell? ⟨b,7,none⟩=some (.int .i64 z7)) (c8:w.cell? ⟨b,8,none⟩=some (.int .i64 z8)) :
  (results Tryz.f117 tmps).run Tryz.prog w=.ok (.agg #[.int .i64 z0,.int .i64 z1,.int .i64 z2,.int .i64 z3,.int .i64 z4,.int .i64 z5,.int .i64 z6,.int .i64 z7,.int .i64 z8]) w:=by
 have hr:Tryz.f117.results=#[.cell 2 169]:=rfl
 unfold results
 rw [hr]
 simp only [ha,List.mapM_toArray,List.mapM_cons,List.mapM_nil,asAddr]
 go_simp
theorem keyOf_1 (A:Option Addr) (kc:Nat) (a0:Int) (w:World) (hA:Ints w A [a0]):Calls Tryz.prog 117 #[.slice A 1 kc] w (RetKey [a0] w):=by
 obtain ⟨b,o,rfl,hc⟩:=hA.at (k:=0) (by simp)
 have hs:=fun (W:World)=>run_copy_cells (P:=Tryz.prog) W 33 33 3 3 (w.heap.size+1) 1 8 8 ⟨b,o,none⟩ 1 kc [.int .i64 a0] Tryz.underlying33 info_int1 rfl
 have hI:Ints ((w.alloc (.cells #[.int .i64 0,.int .i64 0,.int .i64 0,.int .i64 0,.int .i64 0,.int .i64 0,.int .i64 0,.int .i64 0,.int .i64 0] 169)).alloc (.cells #[.int .i64 1,.int .i64 0,.int .i64 0,.int .i64 0,.int .i64 0,.int .i64 0,.int .i64 0,.int .i64 0,.int .i64 0] 169)) (some ⟨b,o,none⟩) [a0]:=Sl.alloc (Sl.alloc hA _) _
 have hcp:=hs _ (fun j v hv=>by
  obtain ⟨b',o',h1,h2⟩:=hI (by simp)
  injection h1 with h1
  injection h1 with h1 h3
  subst h1;subst h3
  have:=h2 j v (by simpa using hv)
  unfold Addr.add
  split
  ·next h0=>subst h0;simpa using this
  ·exact this) (fun j hj=>by
   have:j < 8:=by simp at hj;omega
   rcases j with _ | _ | _ | _ | _ | _ | _ | _ | j <;> first | (simp;done) | omega) (fun j hj=>by simp) (oneCell_ints [a0])
 simp only [World.setCells,goInt] at hcp
 clear hs hI hc
 go_enter Tryz.func117,Tryz.ntmps117
 go_wp2_with fail
 (try simp only [Exit.inBlock,Exit.then]);refine bodyPost_ret (results_key _ _ (b:=w.heap.size) (z0:=1) (z1:=a0) (z2:=0) (z3:=0) (z4:=0) (z5:=0) (z6:=0) (z7:=0) (z8:=0) rfl (by go_simp) (by go_simp) (by go_simp) (by go_simp) (by go_simp) (by go_simp) (by go_simp) (by go_simp) (by go_simp)) rfl ?_
 exact ⟨rfl,((Below.refl _ _).alloc (Nat.le_refl _) _).alloc (by simp) _⟩
theorem keyOf_2 (A:Option Addr) (kc:Nat) (a0 a1:Int) (w:World) (hA:Ints w A [a0,a1]):Calls Tryz.prog 117 #[.slice A 2 kc] w (RetKey [a0,a1] w):=by
 obtain ⟨b,o,rfl,hc⟩:=hA.at (k:=0) (by simp)
 have hs:=fun (W:World)=>run_copy_cells (P:=Tryz.prog) W 33 33 3 3 (w.heap.size+1) 1 8 8 ⟨b,o,none⟩ 2 kc [.int .i64 a0,.int .i64 a1] Tryz.underlying33 info_int1 rfl
 have hI:Ints ((w.alloc (.cells #[.int .i64 0,.int .i64 0,.int .i64 0,.int .i64 0,.int .i64 0,.int .i64 0,.int .i64 0,.int .i64 0,.int .i64 0] 169)).alloc (.cells #[.int .i64 2,.int .i64 0,.int .i64 0,.int .i64 0,.int .i64 0,.int .i64 0,.int .i64 0,.int .i64 0,.int .i64 0] 169)) (some ⟨b,o,none⟩) [a0,a1]:=Sl.alloc (Sl.alloc hA _) _
 have hcp:=hs _ (fun j v hv=>by
  obtain ⟨b',o',h1,h2⟩:=hI (by simp)
  injection h1 with h1
  injection h1 with h1 h3
  subst h1;subst h3
  have:=h2 j v (by simpa using hv)
  unfold Addr.add
  split
  ·next h0=>subst h0;simpa using this
  ·exact this) (fun j hj=>by
   have:j < 8:=by simp at hj;omega
   rcases j with _ | _ | _ | _ | _ | _ | _ | _ | j <;> first | (simp;done) | omega) (fun j hj=>by simp) (oneCell_ints [a0,a1])
 simp only [World.setCells,goInt] at hcp
 clear hs hI hc
 go_enter Tryz.func117,Tryz.ntmps117
 go_wp2_with fail
 (try simp only [Exit.inBlock,Exit.then]);refine bodyPost_ret (results_key _ _ (b:=w.heap.size) (z0:=2) (z1:=a0) (z2:=a1) (z3:=0) (z4:=0) (z5:=0) (z6:=0) (z7:=0) (z8:=0) rfl (by go_simp) (by go_simp) (by go_simp) (by go_simp) (by go_simp) (by go_simp) (by go_simp) (by go_simp) (by go_simp)) rfl ?_
 exact ⟨rfl,((Below.refl _ _).alloc (Nat.le_refl _) _).alloc (by simp) _⟩
theorem keyOf_3 (A:Option Addr) (kc:Nat) (a0 a1 a2:Int) (w:World) (hA:Ints w A [a0,a1,a2]):Calls Tryz.prog 117 #[.slice A 3 kc] w (RetKey [a0,a1,a2] w):=by
 obtain ⟨b,o,rfl,hc⟩:=hA.at (k:=0) (by simp)
 have hs:=fun (W:World)=>run_copy_cells (P:=Tryz.prog) W 33 33 3 3 (w.heap.size+1) 1 8 8 ⟨b,o,none⟩ 3 kc [.int .i64 a0,.int .i64 a1,.int .i64 a2] Tryz.underlying33 info_int1 rfl
 have hI:Ints ((w.alloc (.cells #[.int .i64 0,.int .i64 0,.int .i64 0,.int .i64 0,.int .i64 0,.int .i64 0,.int .i64 0,.int .i64 0,.int .i64 0] 169)).alloc (.cells #[.int .i64 3,.int .i64 0,.int .i64 0,.int .i64 0,.int .i64 0,.int .i64 0,.int .i64 0,.int .i64 0,.int .i64 0] 169)) (some ⟨b,o,none⟩) [a0,a1,a2]:=Sl.alloc (Sl.alloc hA _) _
 have hcp:=hs _ (fun j v hv=>by
  obtain ⟨b',o',h1,h2⟩:=hI (by simp)
  injection h1 with h1
  injection h1 with h1 h3
  subst h1;subst h3
  have:=h2 j v (by simpa using hv)
  unfold Addr.add
  split
  ·next h0=>subst h0;simpa using this
  ·exact this) (fun j hj=>by
   have:j < 8:=by simp at hj;omega
   rcases j with _ | _ | _ | _ | _ | _ | _ | _ | j <;> first | (simp;done) | omega) (fun j hj=>by simp) (oneCell_ints [a0,a1,a2])
 simp only [World.setCells,goInt] at hcp
 clear hs hI hc
 go_enter Tryz.func117,Tryz.ntmps117
 go_wp2_with fail
 (try simp only [Exit.inBlock,Exit.then]);refine bodyPost_ret (results_key _ _ (b:=w.heap.size) (z0:=3) (z1:=a0) (z2:=a1) (z3:=a2) (z4:=0) (z5:=0) (z6:=0) (z7:=0) (z8:=0) rfl (by go_simp) (by go_simp) (by go_simp) (by go_simp) (by go_simp) (by go_simp) (by go_simp) (by go_simp) (by go_simp)) rfl ?_
 exact ⟨rfl,((Below.refl _ _).alloc (Nat.le_refl _) _).alloc (by simp) _⟩
theorem keyOf_4 (A:Option Addr) (kc:Nat) (a0 a1 a2 a3:Int) (w:World) (hA:Ints w A [a0,a1,a2,a3]):Calls Tryz.prog 117 #[.slice A 4 kc] w (RetKey [a0,a1,a2,a3] w):=by
 obtain ⟨b,o,rfl,hc⟩:=hA.at (k:=0) (by simp)
 have hs:=fun (W:World)=>run_copy_cells (P:=Tryz.prog) W 33 33 3 3 (w.heap.size+1) 1 8 8 ⟨b,o,none⟩ 4 kc [.int .i64 a0,.int .i64 a1,.int .i64 a2,.int .i64 a3] Tryz.underlying33 info_int1 rfl
 have hI:Ints ((w.alloc (.cells #[.int .i64 0,.int .i64 0,.int .i64 0,.int .i64 0,.int .i64 0,.int .i64 0,.int .i64 0,.int .i64 0,.int .i64 0] 169)).alloc (.cells #[.int .i64 4,.int .i64 0,.int .i64 0,.int .i64 0,.int .i64 0,.int .i64 0,.int .i64 0,.int .i64 0,.int .i64 0] 169)) (some ⟨b,o,none⟩) [a0,a1,a2,a3]:=Sl.alloc (Sl.alloc hA _) _
 have hcp:=hs _ (fun j v hv=>by
  obtain ⟨b',o',h1,h2⟩:=hI (by simp)
  injection h1 with h1
  injection h1 with h1 h3
  subst h1;subst h3
  have:=h2 j v (by simpa using hv)
  unfold Addr.add
  split
  ·next h0=>subst h0;simpa using this
  ·exact this) (fun j hj=>by
   have:j < 8:=by simp at hj;omega
   rcases j with _ | _ | _ | _ | _ | _ | _ | _ | j <;> first | (simp;done) | omega) (fun j hj=>by simp) (oneCell_ints [a0,a1,a2,a3])
 simp only [World.setCells,goInt] at hcp
 clear hs hI hc
 go_enter Tryz.func117,Tryz.ntmps117
 go_wp2_with fail
 (try simp only [Exit.inBlock,Exit.then]);refine bodyPost_ret (results_key _ _ (b:=w.heap.size) (z0:=4) (z1:=a0) (z2:=a1) (z3:=a2) (z4:=a3) (z5:=0) (z6:=0) (z7:=0) (z8:=0) rfl (by go_simp) (by go_simp) (by go_simp) (by go_simp) (by go_simp) (by go_simp) (by go_simp) (by go_simp) (by go_simp)) rfl ?_
 exact ⟨rfl,((Below.refl _ _).alloc (Nat.le_refl _) _).alloc (by simp) _⟩
theorem keyOf_5 (A:Option Addr) (kc:Nat) (a0 a1 a2 a3 a4:Int) (w:World) (hA:Ints w A [a0,a1,a2,a3,a4]):Calls Tryz.prog 117 #[.slice A 5 kc] w (RetKey [a0,a1,a2,a3,a4] w):=by
 obtain ⟨b,o,rfl,hc⟩:=hA.at (k:=0) (by simp)
 have hs:=fun (W:World)=>run_copy_cells (P:=Tryz.prog) W 33 33 3 3 (w.heap.size+1) 1 8 8 ⟨b,o,none⟩ 5 kc [.int .i64 a0,.int .i64 a1,.int .i64 a2,.int .i64 a3,.int .i64 a4] Tryz.underlying33 info_int1 rfl
 have hI:Ints ((w.alloc (.cells #[.int .i64 0,.int .i64 0,.int .i64 0,.int .i64 0,.int .i64 0,.int .i64 0,.int .i64 0,.int .i64 0,.int .i64 0] 169)).alloc (.cells #[.int .i64 5,.int .i64 0,.int .i64 0,.int .i64 0,.int .i64 0,.int .i64 0,.int .i64 0,.int .i64 0,.int .i64 0] 169)) (some ⟨b,o,none⟩) [a0,a1,a2,a3,a4]:=Sl.alloc (Sl.alloc hA _) _
 have hcp:=hs _ (fun j v hv=>by
  obtain ⟨b',o',h1,h2⟩:=hI (by simp)
  injection h1 with h1
  injection h1 with h1 h3
  subst h1;subst h3
  have:=h2 j v (by simpa using hv)
  unfold Addr.add
  split
  ·next h0=>subst h0;simpa using this
  ·exact this) (fun j hj=>by
   have:j < 8:=by simp at hj;omega
   rcases j with _ | _ | _ | _ | _ | _ | _ | _ | j <;> first | (simp;done) | omega) (fun j hj=>by simp) (oneCell_ints [a0,a1,a2,a3,a4])
 simp only [World.setCells,goInt] at hcp
 clear hs hI hc
 go_enter Tryz.func117,Tryz.ntmps117
 go_wp2_with fail
 (try simp only [Exit.inBlock,Exit.then]);refine bodyPost_ret (results_key _ _ (b:=w.heap.size) (z0:=5) (z1:=a0) (z2:=a1) (z3:=a2) (z4:=a3) (z5:=a4) (z6:=0) (z7:=0) (z8:=0) rfl (by go_simp) (by go_simp) (by go_simp) (by go_simp) (by go_simp) (by go_simp) (by go_simp) (by go_simp) (by go_simp)) rfl ?_
 exact ⟨rfl,((Below.refl _ _).alloc (Nat.le_refl _) _).alloc (by simp) _⟩
theorem keyOf_6 (A:Option Addr) (kc:Nat) (a0 a1 a2 a3 a4 a5:Int) (w:World) (hA:Ints w A [a0,a1,a2,a3,a4,a5]):Calls Tryz.prog 117 #[.slice A 6 kc] w (RetKey [a0,a1,a2,a3,a4,a5] w):=by
 obtain ⟨b,o,rfl,hc⟩:=hA.at (k:=0) (by simp)
 have hs:=fun (W:World)=>run_copy_cells (P:=Tryz.prog) W 33 33 3 3 (w.heap.size+1) 1 8 8 ⟨b,o,none⟩ 6 kc [.int .i64 a0,.int .i64 a1,.int .i64 a2,.int .i64 a3,.int .i64 a4,.int .i64 a5] Tryz.underlying33 info_int1 rfl
 have hI:Ints ((w.alloc (.cells #[.int .i64 0,.int .i64 0,.int .i64 0,.int .i64 0,.int .i64 0,.int .i64 0,.int .i64 0,.int .i64 0,.int .i64 0] 169)).alloc (.cells #[.int .i64 6,.int .i64 0,.int .i64 0,.int .i64 0,.int .i64 0,.int .i64 0,.int .i64 0,.int .i64 0,.int .i64 0] 169)) (some ⟨b,o,none⟩) [a0,a1,a2,a3,a4,a5]:=Sl.alloc (Sl.alloc hA _) _
 have hcp:=hs _ (fun j v hv=>by
  obtain ⟨b',o',h1,h2⟩:=hI (by simp)
  injection h1 with h1
  injection h1 with h1 h3
  subst h1;subst h3
  have:=h2 j v (by simpa using hv)
  unfold Addr.add
  split
  ·next h0=>subst h0;simpa using this
  ·exact this) (fun j hj=>by
   have:j < 8:=by simp at hj;omega
   rcases j with _ | _ | _ | _ | _ | _ | _ | _ | j <;> first | (simp;done) | omega) (fun j hj=>by simp) (oneCell_ints [a0,a1,a2,a3,a4,a5])
 simp only [World.setCells,goInt] at hcp
 clear hs hI hc
 go_enter Tryz.func117,Tryz.ntmps117
 go_wp2_with fail
 (try simp only [Exit.inBlock,Exit.then]);refine bodyPost_ret (results_key _ _ (b:=w.heap.size) (z0:=6) (z1:=a0) (z2:=a1) (z3:=a2) (z4:=a3) (z5:=a4) (z6:=a5) (z7:=0) (z8:=0) rfl (by go_simp) (by go_simp) (by go_simp) (by go_simp) (by go_simp) (by go_simp) (by go_simp) (by go_simp) (by go_simp)) rfl ?_
 exact ⟨rfl,((Below.refl _ _).alloc (Nat.le_refl _) _).alloc (by simp) _⟩
theorem keyOf_7 (A:Option Addr) (kc:Nat) (a0 a1 a2 a3 a4 a5 a6:Int) (w:World) (hA:Ints w A [a0,a1,a2,a3,a4,a5,a6]):Calls Tryz.prog 117 #[.slice A 7 kc] w (RetKey [a0,a1,a2,a3,a4,a5,a6] w):=by
 obtain ⟨b,o,rfl,hc⟩:=hA.at (k:=0) (by simp)
 have hs:=fun (W:World)=>run_copy_cells (P:=Tryz.prog) W 33 33 3 3 (w.heap.size+1) 1 8 8 ⟨b,o,none⟩ 7 kc [.int .i64 a0,.int .i64 a1,.int .i64 a2,.int .i64 a3,.int .i64 a4,.int .i64 a5,.int .i64 a6] Tryz.underlying33 info_int1 rfl
 have hI:Ints ((w.alloc (.cells #[.int .i64 0,.int .i64 0,.int .i64 0,.int .i64 0,.int .i64 0,.int .i64 0,.int .i64 0,.int .i64 0,.int .i64 0] 169)).alloc (.cells #[.int .i64 7,.int .i64 0,.int .i64 0,.int .i64 0,.int .i64 0,.int .i64 0,.int .i64 0,.int .i64 0,.int .i64 0] 169)) (some ⟨b,o,none⟩) [a0,a1,a2,a3,a4,a5,a6]:=Sl.alloc (Sl.alloc hA _) _
 have hcp:=hs _ (fun j v hv=>by
  obtain ⟨b',o',h1,h2⟩:=hI (by simp)
  injection h1 with h1
  injection h1 with h1 h3
  subst h1;subst h3
  have:=h2 j v (by simpa using hv)
  unfold Addr.add
  split
  ·next h0=>subst h0;simpa using this
  ·exact this) (fun j hj=>by
   have:j < 8:=by simp at hj;omega
   rcases j with _ | _ | _ | _ | _ | _ | _ | _ | j <;> first | (simp;done) | omega) (fun j hj=>by simp) (oneCell_ints [a0,a1,a2,a3,a4,a5,a6])
 simp only [World.setCells,goInt] at hcp
 clear hs hI hc
 go_enter Tryz.func117,Tryz.ntmps117
 go_wp2_with fail
 (try simp only [Exit.inBlock,Exit.then]);refine bodyPost_ret (results_key _ _ (b:=w.heap.size) (z0:=7) (z1:=a0) (z2:=a1) (z3:=a2) (z4:=a3) (z5:=a4) (z6:=a5) (z7:=a6) (z8:=0) rfl (by go_simp) (by go_simp) (by go_simp) (by go_simp) (by go_simp) (by go_simp) (by go_simp) (by go_simp) (by go_simp)) rfl ?_
 exact ⟨rfl,((Below.refl _ _).alloc (Nat.le_refl _) _).alloc (by simp) _⟩
theorem keyOf_8 (A:Option Addr) (kc:Nat) (a0 a1 a2 a3 a4 a5 a6 a7:Int) (w:World) (hA:Ints w A [a0,a1,a2,a3,a4,a5,a6,a7]):Calls Tryz.prog 117 #[.slice A 8 kc] w (RetKey [a0,a1,a2,a3,a4,a5,a6,a7] w):=by
 obtain ⟨b,o,rfl,hc⟩:=hA.at (k:=0) (by simp)
 have hs:=fun (W:World)=>run_copy_cells (P:=Tryz.prog) W 33 33 3 3 (w.heap.size+1) 1 8 8 ⟨b,o,none⟩ 8 kc [.int .i64 a0,.int .i64 a1,.int .i64 a2,.int .i64 a3,.int .i64 a4,.int .i64 a5,.int .i64 a6,.int .i64 a7] Tryz.underlying33 info_int1 rfl
 have hI:Ints ((w.alloc (.cells #[.int .i64 0,.int .i64 0,.int .i64 0,.int .i64 0,.int .i64 0,.int .i64 0,.int .i64 0,.int .i64 0,.int .i64 0] 169)).alloc (.cells #[.int .i64 8,.int .i64 0,.int .i64 0,.int .i64 0,.int .i64 0,.int .i64 0,.int .i64 0,.int .i64 0,.int .i64 0] 169)) (some ⟨b,o,none⟩) [a0,a1,a2,a3,a4,a5,a6,a7]:=Sl.alloc (Sl.alloc hA _) _
 have hcp:=hs _ (fun j v hv=>by
  obtain ⟨b',o',h1,h2⟩:=hI (by simp)
  injection h1 with h1
  injection h1 with h1 h3
  subst h1;subst h3
  have:=h2 j v (by simpa using hv)
  unfold Addr.add
  split
  ·next h0=>subst h0;simpa using this
  ·exact this) (fun j hj=>by
   have:j < 8:=by simp at hj;omega
   rcases j with _ | _ | _ | _ | _ | _ | _ | _ | j <;> first | (simp;done) | omega) (fun j hj=>by simp) (oneCell_ints [a0,a1,a2,a3,a4,a5,a6,a7])
 simp only [World.setCells,goInt] at hcp
 clear hs hI hc
 go_enter Tryz.func117,Tryz.ntmps117
 go_wp2_with fail
 (try simp only [Exit.inBlock,Exit.then]);refine bodyPost_ret (results_key _ _ (b:=w.heap.size) (z0:=8) (z1:=a0) (z2:=a1) (z3:=a2) (z4:=a3) (z5:=a4) (z6:=a5) (z7:=a6) (z8:=a7) rfl (by go_simp) (by go_simp) (by go_simp) (by go_simp) (by go_simp) (by go_simp) (by go_simp) (by go_simp) (by go_simp)) rfl ?_
 exact ⟨rfl,((Below.refl _ _).alloc (Nat.le_refl _) _).alloc (by simp) _⟩
theorem keyOf_any (A:Option Addr) (n kc:Nat) (zs:List Int) (w:World) (hA:Ints w A zs) (hn:zs.length=n) (h0:1≤n) (h8:n≤8):Calls Tryz.prog 117 #[.slice A n kc] w (RetKey zs w):=by
 subst hn
 match zs,h0,h8,hA with
 | [a0],_,_,hA=>exact keyOf_1 A kc a0 w hA
 | [a0,a1],_,_,hA=>exact keyOf_2 A kc a0 a1 w hA
 | [a0,a1,a2],_,_,hA=>exact keyOf_3 A kc a0 a1 a2 w hA
 | [a0,a1,a2,a3],_,_,hA=>exact keyOf_4 A kc a0 a1 a2 a3 w hA
 | [a0,a1,a2,a3,a4],_,_,hA=>exact keyOf_5 A kc a0 a1 a2 a3 a4 w hA
 | [a0,a1,a2,a3,a4,a5],_,_,hA=>exact keyOf_6 A kc a0 a1 a2 a3 a4 a5 w hA
 | [a0,a1,a2,a3,a4,a5,a6],_,_,hA=>exact keyOf_7 A kc a0 a1 a2 a3 a4 a5 a6 w hA
 | [a0,a1,a2,a3,a4,a5,a6,a7],_,_,hA=>exact keyOf_8 A kc a0 a1 a2 a3 a4 a5 a6 a7 w hA
 | _::_::_::_::_::_::_::_::_::_,_,h8,_=>simp at h8
end Go.Proofs.YtkhmjidaeliccaaGreatDoor
namespace Go.Proofs.YtkhmjidaeliccaaGreatDoor
open Go.RowKit Go.Maps Go.WideMaps
theorem key_arr:ArrKey Tryz.prog 169 3 9:=⟨Tryz.underlying169,by kernel_rfl,by kernel_rfl,by kernel_rfl⟩
theorem law_key:Keyed Tryz.prog 169:=Keyed.of_law key_arr.law
noncomputable def klit (zs:List Int):Lit:=(keyOf Tryz.prog 169 (keyV zs)).getD (.bool false)
def kok (zs:List Int):Prop:=zs.length≤8∧∀z ∈ zs,(Lit.int .i64 z).wf=true
theorem nine {α:Type} (l:List α) (h:l.length=9):∃a b c d e f g i j,l=[a,b,c,d,e,f,g,i,j]:=by
 match l,h with
 | [a,b,c,d,e,f,g,i,j],_=>exact ⟨a,b,c,d,e,f,g,i,j,rfl⟩
theorem key9 (l:List Int) (h:l.length=9) (hw:∀z ∈ l,(Lit.int .i64 z).wf=true):(keyOf Tryz.prog 169 (.agg (l.map (Value.int .i64)).toArray)).isSome=true:=by
 obtain ⟨z0,z1,z2,z3,z4,z5,z6,z7,z8,rfl⟩:=nine l h
 have w0:=hw z0 (by simp);have w1:=hw z1 (by simp);have w2:=hw z2 (by simp);have w3:=hw z3 (by simp);have w4:=hw z4 (by simp)
 have w5:=hw z5 (by simp);have w6:=hw z6 (by simp);have w7:=hw z7 (by simp);have w8:=hw z8 (by simp)
 have hk:Tryz.prog.keyType 169=true:=by kernel_rfl
 have hu:=Tryz.underlying169
 have hi:=Tryz.underlying3
 have hc9:Tryz.prog.cellsOf 169=9:=by kernel_rfl
 have hc1:Tryz.prog.cellsOf 3=1:=by kernel_rfl
 obtain ⟨m,hm⟩:∃m,Tryz.prog.types.size=m+1:=⟨Tryz.prog.types.size - 1,by kernel_rfl⟩
 unfold keyOf
 rw [hu]
 simp only [hk,hm,Value.formed,hu,hc9]
 unfold Program.keyLits
 rw [hu]
 simp only [hc9,hc1]
 simp [Program.keyLits,hi,w0,w1,w2,w3,w4,w5,w6,w7,w8,List.range,List.range.loop,Value.cells]
theorem keyL_len {zs:List Int} (h:zs.length≤8):(keyL zs).length=9:=by simp [keyL];omega
theorem key_some {zs:List Int} (h:kok zs):keyOf Tryz.prog 169 (keyV zs)=some (klit zs):=by
 have h9:=key9 (keyL zs) (keyL_len h.1) (fun z hz=>by
  simp only [keyL,List.mem_cons,List.mem_append,List.mem_replicate] at hz
  rcases hz with rfl | hz | ⟨_,rfl⟩
  ·have:=h.1;exact wf_small (by omega) (by omega)
  ·exact h.2 z hz
  ·exact wf_small (by omega) (by omega))
 unfold klit
 have e:keyV zs=.agg ((keyL zs).map (Value.int .i64)).toArray:=rfl
 rw [e]
 cases hk:keyOf Tryz.prog 169 (.agg ((keyL zs).map (Value.int .i64)).toArray) with
 | none=>rw [hk] at h9;cases h9
 | some x=>rfl
theorem keyV_inj {xs ys:List Int} (h:keyV xs=keyV ys):xs=ys:=by
 have h1:(keyL xs).map (Value.int .i64)=(keyL ys).map (Value.int .i64):=by
  injection h with h
  exact congrArg Array.toList h
 have h2:keyL xs=keyL ys:=(List.map_inj_right (fun a b e=>by injection e)).1 h1
 unfold keyL at h2
 injection h2 with h3 h4
 exact (List.append_inj h4 (by omega)).1
theorem klit_inj {xs ys:List Int} (hx:kok xs) (hy:kok ys) (h:klit xs=klit ys):xs=ys:=by
 refine keyV_inj ?_
 have a:=key_some hx
 have b:=key_some hy
 rw [h] at a
 exact law_key.inj a b
def lastE (es:List Ent) (zs:List Int):Option (List Elt):=es.foldl (fun r x=>if x.codes=zs then some x.elems else r) none
theorem lastE_snoc (l:List Ent) (x:Ent) (zs:List Int):lastE (l++[x]) zs=if x.codes=zs then some x.elems else lastE l zs:=by simp [lastE,List.foldl_append]
theorem lastE_take {es:List Ent} {i:Nat} (hi:i < es.length) (zs:List Int):lastE (es.take (i+1)) zs=if es[i].codes=zs then some es[i].elems else lastE (es.take i) zs:=by
 rw [List.take_succ_eq_append_getElem hi,lastE_snoc]
def longE (es:List Ent):Int:=es.foldl (fun r x=>max r (x.codes.length:Int)) 0
theorem longE_take {es:List Ent} {i:Nat} (hi:i < es.length):longE (es.take (i+1))=max (longE (es.take i)) (es[i].codes.length:Int):=by
 rw [List.take_succ_eq_append_getElem hi];unfold longE;rw [List.foldl_append];rfl
theorem longE_bd {es:List Ent} {k:Nat} (h:∀x ∈ es,x.codes.length≤k):0≤longE es∧longE es≤k:=by
 unfold longE
 have:∀(l:List Ent) (r:Int),(∀x ∈ l,x.codes.length≤k)→0≤r→r≤k→0≤l.foldl (fun r x=>max r (x.codes.length:Int)) r∧l.foldl (fun r x=>max r (x.codes.length:Int)) r≤k:=by
  intro l
  induction l with
  | nil=>intro r _ h0 h1;exact ⟨h0,h1⟩
  | cons x l ih=>
   intro r hl h0 h1
   have hx:=hl x (by simp)
   exact ih _ (fun y hy=>hl y (by simp [hy])) (by dsimp only;omega) (by dsimp only;omega)
 exact this es 0 h (by omega) (by omega)
theorem longE_ge {es:List Ent} {x:Ent} (h:x ∈ es):(x.codes.length:Int)≤longE es:=by
 unfold longE
 have mono:∀(l:List Ent) (r:Int),r≤l.foldl (fun r x=>max r (x.codes.length:Int)) r:=by
  intro l
  induction l with
  | nil=>intro r;exact Int.le_refl _
  | cons y l ih=>intro r;exact Int.le_trans (by dsimp only;omega) (ih _)
 have:∀(l:List Ent) (r:Int),x ∈ l→(x.codes.length:Int)≤l.foldl (fun r x=>max r (x.codes.length:Int)) r:=by
  intro l
  induction l with
  | nil=>intro r h;cases h
  | cons y l ih=>
   intro r h
   rcases List.mem_cons.1 h with rfl | h
   ·exact Int.le_trans (by dsimp only;omega) (mono l _)
   ·exact ih _ h
 exact this es 0 h
theorem lastE_mem {es:List Ent} {zs:List Int} {e:List Elt} (h:lastE es zs=some e):∃x ∈ es,x.codes=zs∧x.elems=e:=by
 unfold lastE at h
 have:∀(l:List Ent) (r:Option (List Elt)),l.foldl (fun r x=>if x.codes=zs then some x.elems else r) r=some e→r=some e∨∃x ∈ l,x.codes=zs∧x.elems=e:=by
  intro l
  induction l with
  | nil=>intro r h;exact .inl h
  | cons y l ih=>
   intro r h
   rcases ih _ h with h1 | ⟨x,hx,h2⟩
   ·dsimp only at h1
    split at h1
    ·next hy=>injection h1 with h1;exact .inr ⟨y,by simp,hy,h1⟩
    ·exact .inl h1
   ·exact .inr ⟨x,by simp [hx],h2⟩
 rcases this es none h with h | h
 ·cases h
 ·exact h
def TabF (w:World) (f:List Int→Option Value) (es:List Ent):Prop:=
 ∀zs,kok zs→match lastE es zs with | none=>f zs=none | some e=>∃E d,f zs=some (.slice E e.length d)∧Elts w E e
theorem TabF.nil (w:World):TabF w (fun _=>none) []:=fun _ _=>rfl
theorem TabF.below {w w':World} {f:List Int→Option Value} {es:List Ent} (h:TabF w f es) (hb:Below w.heap.size w w'):TabF w' f es:=fun zs hz=>by
 have:=h zs hz
 cases hl:lastE es zs with
 | none=>rw [hl] at this;exact this
 | some e=>
  rw [hl] at this
  obtain ⟨E,d,h1,h2⟩:=this
  exact ⟨E,d,h1,h2.below hb⟩
theorem TabF.put {w:World} {f:List Int→Option Value} {es:List Ent} {i:Nat} (h:TabF w f (es.take i)) (hi:i < es.length) {E:Option Addr} {d:Nat} (hE:Elts w E es[i].elems) :
  TabF w (fun y=>if y=es[i].codes then some (.slice E es[i].elems.length d) else f y) (es.take (i+1)):=fun zs hz=>by
 rw [lastE_take hi]
 by_cases e:es[i].codes=zs
 ·rw [if_pos e]
  dsimp only
  rw [if_pos e.symm]
  exact ⟨E,d,rfl,hE⟩
 ·rw [if_neg e]
  dsimp only
  rw [if_neg (fun x=>e x.symm)]
  exact h zs hz
def colD (c:Col):Col:=if colErr c=0 then c else ⟨[],[],64448,32,2⟩
def tabCells (A:Option Addr) (n a:Nat) (B:Option Addr) (m b:Nat) (c:Col) (M:Nat) (long:Int) (cl:Value) (top:Int):List Value:=
 [.slice A n a,.slice B m b,.int .i64 c.base,.int .i64 c.second,.int .i64 c.third,.map (some M),.int .i64 long,cl,.int .i64 top]
structure TabAt (w:World) (T:Nat) (c:Col) (cl:Value) (top:Int):Prop where
 ex:∃A n a B m b M k f,Box w T 167 (tabCells A n a B m b c M (longE c.ents) cl top)∧MapIs Tryz.prog 169 klit kok w M k f∧TabF w f c.ents
theorem TabAt.below {w w':World} {T:Nat} {c:Col} {cl:Value} {top:Int} (h:TabAt w T c cl top) (hb:Below w.heap.size w w'):TabAt w' T c cl top:=by
 obtain ⟨A,n,a,B,m,b,M,k,f,h1,h3,h4⟩:=h.ex
 exact ⟨A,n,a,B,m,b,M,k,f,h1.below hb h1.lt,h3.below hb,h4.below hb⟩
def RetTab (c:Col) (w:World) (e:Ending) (w':World):Prop:=∃T,e=.returned (.pointer (some ⟨T,0,none⟩))∧w.heap.size≤T∧TabAt w' T c (.slice none 0 0) 0∧Below w.heap.size w w'
end Go.Proofs.YtkhmjidaeliccaaGreatDoor
namespace Go.Proofs.YtkhmjidaeliccaaGreatDoor
open Go.RowKit Go.Maps Go.WideMaps
theorem ents_ok {base:Int} {es:List Ent} {p:Option Ent} (h:entsErr base es p=0):∀x ∈ es,entErr1 base x=0:=by
 induction es generalizing p with
 | nil=>intro x hx;cases hx
 | cons y r ih=>
  intro x hx
  unfold entsErr at h
  by_cases h1:entErr1 base y=0
  ·rcases List.mem_cons.1 hx with rfl | hx
   ·exact h1
   ·simp only [h1,ne_eq,not_true_eq_false,if_false] at h
    cases p with
    | none=>exact ih h x hx
    | some z=>
     simp only at h
     split at h
     ·cases h
     ·exact ih h x hx
  ·rw [if_pos h1] at h;exact absurd h h1
theorem ent_codes {base:Int} {x:Ent} (h:entErr1 base x=0):1≤x.codes.length∧x.codes.length≤8∧x.elems.length≤16∧∀z ∈ x.codes,0≤z∧z≤1114111:=by
 unfold entErr1 at h
 split at h
 ·cases h
 ·next h1=>
  split at h
  ·cases h
  ·next h2=>
   refine ⟨by omega,by omega,by omega,fun z hz=>?_⟩
   simp at h2
   exact h2 z hz
theorem col_ents {c:Col} (h:colErr c=0):entsErr c.base c.ents none=0:=by
 unfold colErr at h
 split at h
 ·cases h
 ·split at h
  ·next h1=>exact absurd h h1
  ·exact h
theorem codes_kok {base:Int} {x:Ent} (h:entErr1 base x=0):kok x.codes:=by
 obtain ⟨_,h8,_,hz⟩:=ent_codes h
 exact ⟨h8,fun z hz'=>by have:=hz z hz';exact wf_small (by omega) (by omega)⟩
theorem codes_at {c:Col} (h:colErr c=0) {i:Nat} (hi:i < c.ents.length):kok c.ents[i].codes∧1≤c.ents[i].codes.length∧c.ents[i].codes.length≤8:=by
 have:=ents_ok (col_ents h) _ (List.getElem_mem hi)
 exact ⟨codes_kok this,(ent_codes this).1,(ent_codes this).2.1⟩
theorem made_ok (A:Option Addr) (n a:Nat) (B:Option Addr) (m b:Nat) (c:Col) (w:World) (h:ColAt w A n B m c) (hz:ColSz c) (he:colErr c=0) :
  Calls Tryz.prog 60 #[colV A n a B m b c] w (RetTab c w):=by
 have B0:Below w.heap.size w (w.alloc (.cells #[.slice A n a,.slice B m b,.int .i64 c.base,.int .i64 c.second,.int .i64 c.third] 32)):=(Below.refl _ _).alloc (Nat.le_refl _) _
 have s0:(w.alloc (.cells #[.slice A n a,.slice B m b,.int .i64 c.base,.int .i64 c.second,.int .i64 c.third] 32)).heap.size=w.heap.size+1:=by simp
 have k0:(w.alloc (.cells #[.slice A n a,.slice B m b,.int .i64 c.base,.int .i64 c.second,.int .i64 c.third] 32)).cell? ⟨w.heap.size,0,none⟩=some (.slice A n a):=by simp
 have k1:(w.alloc (.cells #[.slice A n a,.slice B m b,.int .i64 c.base,.int .i64 c.second,.int .i64 c.third] 32)).cell? ⟨w.heap.size,1,none⟩=some (.slice B m b):=by simp
 have k2:(w.alloc (.cells #[.slice A n a,.slice B m b,.int .i64 c.base,.int .i64 c.second,.int .i64 c.third] 32)).cell? ⟨w.heap.size,2,none⟩=some (.int .i64 c.base):=by simp
 have k3:(w.alloc (.cells #[.slice A n a,.slice B m b,.int .i64 c.base,.int .i64 c.second,.int .i64 c.third] 32)).cell? ⟨w.heap.size,3,none⟩=some (.int .i64 c.second):=by simp
 have k4:(w.alloc (.cells #[.slice A n a,.slice B m b,.int .i64 c.base,.int .i64 c.second,.int .i64 c.third] 32)).cell? ⟨w.heap.size,4,none⟩=some (.int .i64 c.third):=by simp
 have W0E:∃W0,w.alloc (.cells #[.slice A n a,.slice B m b,.int .i64 c.base,.int .i64 c.second,.int .i64 c.third] 32)=W0:=⟨_,rfl⟩
 have CK:=Lib.hid (fun W (hb:Below w.heap.size w W)=>ckColl_any A n a B m b c W (h.below hb) hz)
 have HE:=Lib.hid h.ents
 have hn:=h.hn
 have hnz:=hz.n
 have HCD:=Lib.hid (fun i hi=>codes_at he (i:=i) hi)
 have HER:=Lib.hid he
 have LB:=Lib.hid (fun i=>longE_bd (es:=c.ents.take i) (k:=8) (fun x hx=>(ent_codes (ents_ok (col_ents he) x (List.mem_of_mem_take hx))).2.1))
 have hmm:=@run_makeMap Tryz.prog
 clear h hz he
 unfold colV at *
 subst hn
 go_enter Tryz.func60,Tryz.ntmps60
 go_wp2_with fail
 obtain ⟨W0,hW0⟩:=W0E
 rw [hW0] at B0 s0 k0 k1 k2 k3 k4 ⊢
 clear hW0
 have hx0:w.heap.size < W0.heap.size:=by omega
 with_reducible refine (CK.out W0 B0).mono ?_
 rw [HER.out]
 rintro e W1 ⟨rfl,hb1⟩
 clear CK
 have hb2:=B0.trans (hb1.mono B0.size)
 have f0:=(hb1.cell (p:=⟨w.heap.size,0,none⟩) hx0).trans k0
 have f1:=(hb1.cell (p:=⟨w.heap.size,1,none⟩) hx0).trans k1
 have f2:=(hb1.cell (p:=⟨w.heap.size,2,none⟩) hx0).trans k2
 have f3:=(hb1.cell (p:=⟨w.heap.size,3,none⟩) hx0).trans k3
 have f4:=(hb1.cell (p:=⟨w.heap.size,4,none⟩) hx0).trans k4
 have hx1:w.heap.size < W1.heap.size:=by have:=hb1.size;omega
 have hx2:¬w.heap.size=W1.heap.size:=by omega
 have hx3:¬w.heap.size=W1.heap.size+1:=by omega
 have KC:=Lib.hid (And.intro f0 (And.intro f1 (And.intro f2 (And.intro f3 f4))))
 clear k0 k1 k2 k3 k4
 have B2:Below W1.heap.size W1 ((W1.alloc (.map #[] 0)).alloc (.cells #[.slice A c.ents.length a,.slice B m b,.int .i64 c.base,.int .i64 c.second,.int .i64 c.third,.map (some W1.heap.size),.int .i64 0,.slice none 0 0,.int .i64 0] 167)):=((Below.refl _ _).alloc (Nat.le_refl _) _).alloc (by simp) _
 have X2:Box ((W1.alloc (.map #[] 0)).alloc (.cells #[.slice A c.ents.length a,.slice B m b,.int .i64 c.base,.int .i64 c.second,.int .i64 c.third,.map (some W1.heap.size),.int .i64 0,.slice none 0 0,.int .i64 0] 167)) (W1.heap.size+1) 167 (tabCells A c.ents.length a B m b c W1.heap.size (0) (.slice none 0 0) 0):=Box.new _ _ _ (by simp)
 have M2:MapIs Tryz.prog 169 klit kok ((W1.alloc (.map #[] 0)).alloc (.cells #[.slice A c.ents.length a,.slice B m b,.int .i64 c.base,.int .i64 c.second,.int .i64 c.third,.map (some W1.heap.size),.int .i64 0,.slice none 0 0,.int .i64 0] 167)) W1.heap.size 0 (fun _=>none):=(MapIs.made Tryz.prog _ klit kok W1).alloc _
 have s2:((W1.alloc (.map #[] 0)).alloc (.cells #[.slice A c.ents.length a,.slice B m b,.int .i64 c.base,.int .i64 c.second,.int .i64 c.third,.map (some W1.heap.size),.int .i64 0,.slice none 0 0,.int .i64 0] 167)).heap.size=W1.heap.size+2:=by simp
 have W2E:∃W2,(W1.alloc (.map #[] 0)).alloc (.cells #[.slice A c.ents.length a,.slice B m b,.int .i64 c.base,.int .i64 c.second,.int .i64 c.third,.map (some W1.heap.size),.int .i64 0,.slice none 0 0,.int .i64 0] 167)=W2:=⟨_,rfl⟩
 go_wp2_with fail
 obtain ⟨W2,hW2⟩:=W2E
 rw [hW2] at B2 X2 M2 s2 ⊢
 clear hW2 f0 f1 f2 f3 f4
 have HX2:=Lib.hid X2
 have HM2:=Lib.hid M2
 clear X2 M2 hmm
 have L0:=Lib.hid (show longE (c.ents.take 0)=0 from rfl)
 go_loopw [5,17] (fun _ u wr=>∃(i:Nat) (f:List Int→Option Value),i≤c.ents.length∧u=.int .i64 i∧Box wr (W1.heap.size+1) 167 (tabCells A c.ents.length a B m b c W1.heap.size (longE (c.ents.take i)) (.slice none 0 0) 0)∧MapIs Tryz.prog 169 klit kok wr W1.heap.size i f∧TabF W1 f (c.ents.take i)∧Below W1.heap.size W1 wr) (fun _ u _=>c.ents.length - (intOf u).toNat)
 case atStart=>exact ⟨0,fun _=>none,Nat.zero_le _,rfl,HX2.out,HM2.out,by rw [List.take_zero];exact TabF.nil _,B2⟩
 case round=>
  obtain ⟨i,f,hi,rfl,hX,hM,hT,hbr⟩:=hrel
  have HX:=Lib.hid hX;have HM:=Lib.hid hM;have HT:=Lib.hid hT
  have hXl:=hX.lt
  clear hX hM hT HX2 HM2 L0
  by_cases hlt:i < c.ents.length
  ·obtain ⟨b1,o1,rfl,hbl,hcell⟩:=(HE.out.below hb2).at hlt
   obtain ⟨C,cc,E,dd,c1',c2',hC,hE⟩:=hcell i hlt
   obtain ⟨hkok,hl1,hl8⟩:=HCD.out i hlt
   have c1:=(hbr.cell (p:=⟨b1,o1+i*2,none⟩) hbl).trans c1'
   have c2:=(hbr.cell (p:=⟨b1,o1+i*2+1,none⟩) hbl).trans c2'
   have HKK:=Lib.hid hkok
   have HINT:=Lib.hid (fun W (hb:Below W1.heap.size W1 W)=>hC.below hb)
   have LS:=Lib.hid (longE_take hlt)
   have lb:=LB.out i
   have lb1:=LB.out (i+1)
   have TP:=Lib.hid (HT.out.put hlt (E:=E) (d:=dd) hE)
   have hbl2:b1 < wr.heap.size:=Nat.lt_of_lt_of_le hbl hbr.size
   have hn1:¬b1=wr.heap.size:=by omega
   clear hcell hkok hC hE c1' c2' HT
   generalize c.ents[i].codes=cds at *
   generalize c.ents[i].elems=els at *
   have Ba:Below wr.heap.size wr (wr.alloc (.cells #[.slice C cds.length cc,.slice E els.length dd] 75)):=(Below.refl _ _).alloc (Nat.le_refl _) _
   have Xa:Box (wr.alloc (.cells #[.slice C cds.length cc,.slice E els.length dd] 75)) wr.heap.size 75 [.slice C cds.length cc,.slice E els.length dd]:=Box.new _ _ _ rfl
   have sa:(wr.alloc (.cells #[.slice C cds.length cc,.slice E els.length dd] 75)).heap.size=wr.heap.size+1:=by simp
   have WaE:∃Wa,wr.alloc (.cells #[.slice C cds.length cc,.slice E els.length dd] 75)=Wa:=⟨_,rfl⟩
   go_wp2_with fail
   obtain ⟨Wa,hWa⟩:=WaE
   rw [hWa] at Ba Xa sa ⊢
   clear hWa c1 c2
   have XT:=HX.out.below Ba hXl
   have t5:=XT.cell (i:=5) (v:=.map (some W1.heap.size)) rfl
   have e0:=Xa.cell (i:=0) rfl
   have e1:=Xa.cell (i:=1) rfl
   have HXT:=Lib.hid XT;have HXA:=Lib.hid Xa
   have hba:=hbr.trans (Ba.mono hbr.size)
   have KY:=Lib.hid ((keyOf_any C cds.length cc cds Wa.drew (HINT.out _ hba.drew) rfl hl1 hl8).mono (R':=fun e w'=>e=.returned (keyV cds)∧(w'.cell? ⟨W1.heap.size+1,5,none⟩=some (.map (some W1.heap.size))∧w'.cell? ⟨wr.heap.size,0,none⟩=some (.slice C cds.length cc)∧w'.cell? ⟨wr.heap.size,1,none⟩=some (.slice E els.length dd))∧Below Wa.heap.size Wa w') (fun e w' ⟨he,hb⟩=>by
    have hb':Below Wa.heap.size Wa w':=((Below.refl _ Wa).drew).trans hb
    exact ⟨he,⟨(hb'.cell (p:=⟨W1.heap.size+1,5,none⟩) (show W1.heap.size+1 < _ by omega)).trans t5,(hb'.cell (p:=⟨wr.heap.size,0,none⟩) (show wr.heap.size < _ by omega)).trans e0,(hb'.cell (p:=⟨wr.heap.size,1,none⟩) (show wr.heap.size < _ by omega)).trans e1⟩,hb'⟩))
   clear XT Xa
   refine wp_region_held_drew (S:=fun W'=>W'.cell? ⟨W1.heap.size+1,5,none⟩=some (.map (some W1.heap.size))∧W'.cell? ⟨wr.heap.size,0,none⟩=some (.slice C cds.length cc)∧W'.cell? ⟨wr.heap.size,1,none⟩=some (.slice E els.length dd)) (by kernel_rfl) ⟨t5,e0,e1⟩ (fun hHeld=>?_)
   refine tK 0 21 ?_
   refine tK 1 22 ?_
   refine tK 2 23 ?_
   refine tK 3 24 ?_
   refine tK 4 25 ?_
   refine tK 5 26 ?_
   refine tK 7 28 ?_
   refine tK 8 29 ?_
   refine anyH_callR (R:=fun W'=>Below Wa.heap.size Wa W') (i:=6) (some 27) rfl rfl (by kernel_rfl) (by rfl) (by go_simp) KY.out (fun w6 hS6 hR6=>?_)
   clear hHeld KY
   have hHeld:=hS6
   clear hS6
   try simp only [Act.put,List.setIfInBounds_toArray,List.set_cons_zero,List.set_cons_succ]
   have hwb:=Ba.trans (hR6.mono Ba.size)
   refine anyH_mput (val:=.slice E els.length dd) (i:=9) none rfl rfl (by kernel_rfl) (by rfl) _ _ _ _ rfl (HM.out.below hwb) law_key Tryz.underlying165 (by unfold maxLen;omega) rfl rfl rfl HKK.out (key_some HKK.out) (fun y hy e=>klit_inj hy HKK.out e) (fun w' hg=>?_) (fun w7 hM7 hg7=>?_)
   ·have h6:=hR6.size
    exact ⟨(World.cell?_of_block (hg.block (W1.heap.size+1) (by omega) (by simp))).trans hHeld.1,(World.cell?_of_block (hg.block wr.heap.size (by omega) (by simp;omega))).trans hHeld.2.1,(World.cell?_of_block (hg.block wr.heap.size (by omega) (by simp;omega))).trans hHeld.2.2⟩
   refine wpAnyH_done (by kernel_rfl) ?_ _
   have h6:=hR6.size
   have hb7:=below_grown (hba.trans (hR6.mono (by omega:W1.heap.size≤Wa.heap.size))) hg7 (Nat.le_refl _) (by omega)
   have X7:=(HXT.out.below hR6 (by omega)).grown hg7 (by simp)
   have Y7:=(HXA.out.below hR6 (by omega)).grown hg7 (by simp;omega)
   have HX7:=Lib.hid X7
   have HM7:=Lib.hid hM7
   have t6:=X7.cell (i:=6) (v:=.int .i64 (longE (c.ents.take i))) rfl
   have z6:=X7.free 6
   have u0:=Y7.cell (i:=0) rfl
   have g7:=hg7.size
   clear X7 Y7 hM7 hg7 HM HX HXT HXA hHeld t5 e0 e1
   generalize longE (c.ents.take i)=l0 at *
   obtain ⟨mx,hmx2⟩:∃m,max l0 (cds.length:Int)=m:=⟨_,rfl⟩
   have hmx:(if l0 < (cds.length:Int) then (cds.length:Int) else l0)=mx:=by rw [←hmx2];split <;> omega
   have HMX:=Lib.hid hmx
   go_wp2_with fail
   go_region
   all_goals
    go_wp2_with fail
    go_roundw
    case rel=>
     have e:mx=longE (c.ents.take (i+1)):=by rw [LS.out,←HMX.out];split <;> omega
     refine ⟨i+1,_,by omega,by go_num,?_,(HM7.out.kept (grown_set _ _ _) (by simp)).below ((Below.refl _ _).drew),TP.out,(hb7.setCell (p:=⟨W1.heap.size+1,6,none⟩) (by show W1.heap.size≤W1.heap.size+1;omega) _).drew⟩
     rw [e]
     exact HX7.out.set 6 _
    case measure=>simp [intOf];omega
  ·obtain rfl:i=c.ents.length:=by omega
   have hXX:=HX.out
   have hTT:=HT.out
   rw [List.take_length] at hXX hTT
   have HXX:=Lib.hid hXX
   have HTT:=Lib.hid hTT
   clear hXX hTT HT HX
   go_wp2_with fail
   go_ret
   exact ⟨W1.heap.size+1,rfl,by omega,⟨A,c.ents.length,a,B,m,b,W1.heap.size,_,_,HXX.out,HM.out,HTT.out.below hbr⟩,hb2.trans (hbr.mono hb2.size)⟩
end Go.Proofs.YtkhmjidaeliccaaGreatDoor
namespace Go.Proofs.YtkhmjidaeliccaaGreatDoor
open Go.RowKit Go.Maps Go.WideMaps
def RetFind (r:Option (List Elt)) (w:World) (e:Ending) (w':World):Prop:=∃E d,e=.returned (.tuple #[.slice E (r.getD []).length d,.bool r.isSome])∧Elts w' E (r.getD [])∧Below w.heap.size w w'
theorem zero_elts (w:World):(zeroValue 54).run Tryz.prog w=.ok (.slice none 0 0) w:=by kernel_rfl
theorem TabF.at {w:World} {f:List Int→Option Value} {es:List Ent} (h:TabF w f es) {zs:List Int} (hz:kok zs) :
  ∃E d,(f zs).getD (.slice none 0 0)=.slice E ((lastE es zs).getD []).length d∧(f zs).isSome=(lastE es zs).isSome∧Elts w E ((lastE es zs).getD []):=by
 have:=h zs hz
 cases hl:lastE es zs with
 | none=>rw [hl] at this;simp only at this;rw [this];exact ⟨none,0,rfl,rfl,Sl.nil _ _⟩
 | some e=>
  rw [hl] at this
  obtain ⟨E,d,h1,h2⟩:=this
  rw [h1]
  exact ⟨E,d,rfl,rfl,h2⟩
theorem lastE_short {es:List Ent} (h:∀x ∈ es,1≤x.codes.length):lastE es []=none:=by
 cases hl:lastE es [] with
 | none=>rfl
 | some e=>
  obtain ⟨x,hx,h1,_⟩:=lastE_mem hl
  have:=h x hx
  rw [h1] at this
  simp at this
theorem lastE_long {es:List Ent} {zs:List Int} (h:longE es < (zs.length:Int)):lastE es zs=none:=by
 cases hl:lastE es zs with
 | none=>rfl
 | some e=>
  obtain ⟨x,hx,h1,_⟩:=lastE_mem hl
  have:=longE_ge hx
  rw [h1] at this
  omega
theorem tfind_any (T:Nat) (c:Col) (cl:Value) (top:Int) (C:Option Addr) (n cc:Nat) (zs:List Int) (w:World) (hT:TabAt w T c cl top) (hC:Ints w C zs) (hn:zs.length=n) (hn2:n≤1048576)
  (hE:∀x ∈ c.ents,1≤x.codes.length∧x.codes.length≤8) (hw:∀z ∈ zs,(Lit.int .i64 z).wf=true) :
  Calls Tryz.prog 61 #[.pointer (some ⟨T,0,none⟩),.slice C n cc] w (RetFind (lastE c.ents zs) w):=by
 obtain ⟨A,n',a,B,m,b,M,k,f,hX,hM,hTF⟩:=hT.ex
 subst hn
 have t5:=hX.cell (i:=5) (v:=.map (some M)) rfl
 have t6:=hX.cell (i:=6) (v:=.int .i64 (longE c.ents)) rfl
 have hlt:=hX.lt
 have LB:=longE_bd (k:=8) (fun x hx=>(hE x hx).2)
 have L1:=Lib.hid (lastE_short (fun x hx=>(hE x hx).1))
 have L2:=Lib.hid (lastE_long (es:=c.ents) (zs:=zs))
 have HAT:=Lib.hid (fun hk=>hTF.at (zs:=zs) hk)
 have HM:=Lib.hid hM
 have KY:=Lib.hid (fun W (hb:Below w.heap.size w W) h1 h8=>keyOf_any C zs.length cc zs W (hC.below hb) rfl h1 h8)
 have HW:=Lib.hid hw
 clear hX hTF hM hT hw hE
 by_cases h0:zs.length=0
 ·have hz:zs=[]:=List.length_eq_zero_iff.1 h0
  subst hz
  rw [L1.out]
  clear L1 L2 HAT KY HW
  go_enter Tryz.func61,Tryz.ntmps61
  go_wp2_with fail
  go_ret2
  exact ⟨none,0,rfl,Sl.nil _ _,Below.refl _ _⟩
 by_cases h1:longE c.ents < (zs.length:Int)
 ·rw [L2.out h1]
  clear L1 L2 HAT KY HW
  have q0:((zs.length:Int)==0)=false:=by rw [beq_eq_false_iff_ne];omega
  have q1:decide (longE c.ents < (zs.length:Int))=true:=by simpa using h1
  generalize longE c.ents=lg at *
  go_enter Tryz.func61,Tryz.ntmps61
  go_wp2_with fail
  go_ret2
  exact ⟨none,0,rfl,Sl.nil _ _,Below.refl _ _⟩
 ·have q0:((zs.length:Int)==0)=false:=by rw [beq_eq_false_iff_ne];omega
  have q1:decide (longE c.ents < (zs.length:Int))=false:=by simpa using h1
  have hkok:kok zs:=⟨by omega,HW.out⟩
  obtain ⟨E,d,v1,v2,hEl⟩:=HAT.out hkok
  have HEL:=Lib.hid hEl
  have HV:=Lib.hid (And.intro v1 v2)
  have HKK:=Lib.hid hkok
  have KY2:=Lib.hid (fun W (hb:Below w.heap.size w W)=>(KY.out W hb (by omega) (by omega)).mono (R':=fun e w'=>e=.returned (keyV zs)∧(w'.cell? ⟨T,5,none⟩=some (.map (some M))∧Below w.heap.size w w')) (fun e w' ⟨he,hb'⟩=>by
   have hb2:=hb.trans (hb'.mono hb.size)
   exact ⟨he,(hb2.cell (p:=⟨T,5,none⟩) hlt).trans t5,hb2⟩))
  clear L1 L2 HAT KY HW hkok v1 v2 hEl
  generalize longE c.ents=lg at *
  generalize lastE c.ents zs=r at *
  go_enter Tryz.func61,Tryz.ntmps61
  go_wp2_with fail
  refine wp_region_held_drew (S:=fun W'=>W'.cell? ⟨T,5,none⟩=some (.map (some M))∧Below w.heap.size w W') (by kernel_rfl) ⟨t5,(Below.refl _ _).drew⟩ (fun hHeld=>?_)
  refine tK 0 21 ?_
  refine tK 1 22 ?_
  refine tK 2 23 ?_
  refine tK 3 24 ?_
  refine tK 4 25 ?_
  refine qK 5 26 (KY2.out _ hHeld.2) ?_
  clear hHeld
  intro w6 hHeld
  refine anyH_lookOk (v:=.tuple #[.slice E (r.getD []).length d,.bool r.isSome]) (i:=6) (some 27) rfl rfl (by kernel_rfl) (by kernel_rfl) (by kernel_rfl) (fun _ _ _ h=>h) (by rfl) (by assumption) _ _ _ rfl (fun w' hS'=>HM.out.below hS'.2) law_key Tryz.underlying165 zero_elts rfl rfl HKK.out (key_some HKK.out) (by rw [HV.out.1,HV.out.2]) ?_
  try simp only [Act.put,List.setIfInBounds_toArray,List.set_cons_zero,List.set_cons_succ]
  refine tK 7 20 ?_
  refine tK 8 28 ?_
  refine tK 9 29 ?_
  refine tK 10 6 ?_
  refine tK 11 7 ?_
  refine wpAnyH_done (by kernel_rfl) ?_ _
  go_wp2_with fail
  go_ret2
  exact ⟨E,d,rfl,HEL.out.below hHeld.2,hHeld.2⟩
theorem valid_ents {c:Col} (h:colErr c=0):∀x ∈ c.ents,1≤x.codes.length∧x.codes.length≤8:=fun x hx=>by
 have:=ent_codes (ents_ok (col_ents h) x hx)
 exact ⟨this.1,this.2.1⟩
theorem last_len {c:Col} (h:colErr c=0) (zs:List Int):((lastE c.ents zs).getD []).length≤16:=by
 cases hl:lastE c.ents zs with
 | none=>simp
 | some e=>
  obtain ⟨x,hx,_,h2⟩:=lastE_mem hl
  have:=(ent_codes (ents_ok (col_ents h) x hx)).2.2.1
  rw [h2] at this
  exact this
end Go.Proofs.YtkhmjidaeliccaaGreatDoor
namespace Go.Proofs.YtkhmjidaeliccaaGreatDoor
open Go.RowKit Go.Maps Go.WideMaps
theorem TabAt.cl {w:World} {T:Nat} {c:Col} {cl:Value} {top:Int} (h:TabAt w T c cl top):w.cell? ⟨T,7,none⟩=some cl∧T < w.heap.size:=by
 obtain ⟨A,n,a,B,m,b,M,k,f,hX,_⟩:=h.ex
 exact ⟨hX.cell (i:=7) rfl,hX.lt⟩
theorem tclassF_any (bt bc T:Nat) (A:Option Addr) (k:Nat) (cs:List Spn) (c:Int) (i:Nat) (W:World) (hS:Spans W A cs) (hi:i < cs.length) (ht:W.cell? ⟨bt,0,none⟩=some (.pointer (some ⟨T,0,none⟩))) (hc:W.cell? ⟨bc,0,none⟩=some (.int .i64 c)) (h7:W.cell? ⟨T,7,none⟩=some (.slice A cs.length k)) :
  Calls Tryz.prog 172 #[.int .i64 i,.pointer (some ⟨bt,0,none⟩),.pointer (some ⟨bc,0,none⟩)] W (RetBool (decide (c≤cs[i].hi)) W):=by
 obtain ⟨b,o,rfl,_,hcell⟩:=hS.at hi
 obtain ⟨c1,c2,c3⟩:=hcell i hi
 clear hcell
 generalize cs[i].hi=hh at *
 generalize cs[i].lo=ll at *
 generalize cs[i].val=vv at *
 go_enter Tryz.func172,Tryz.ntmps172
 go_wp2_with fail
 go_quiet (fail)
 go_wp2_with fail
 go_ret
 exact ⟨rfl,below_of_drewN _ _⟩
theorem tclass_any (T:Nat) (A:Option Addr) (k:Nat) (cs:List Spn) (c:Int) (w:World) (hS:Spans w A cs) (hbig:cs.length≤1099511627776) (hasc:Asc cs) (hT:T < w.heap.size) (h7:w.cell? ⟨T,7,none⟩=some (.slice A cs.length k)) :
  Calls Tryz.prog 127 #[.pointer (some ⟨T,0,none⟩),.int .i64 c] w (RetInt (cls cs c) w):=by
 have H0:Below w.heap.size w ((w.alloc (.cells #[.pointer (some ⟨T,0,none⟩)] 104)).alloc (.cells #[.int .i64 c] 3)):=((Below.refl _ _).alloc (Nat.le_refl _) _).alloc (by simp) _
 have X0:Box ((w.alloc (.cells #[.pointer (some ⟨T,0,none⟩)] 104)).alloc (.cells #[.int .i64 c] 3)) w.heap.size 104 [.pointer (some ⟨T,0,none⟩)]:=(Box.new w _ [.pointer (some ⟨T,0,none⟩)] rfl).below (B:=w.heap.size+1) ((Below.refl _ _).alloc (by simp) _) (by omega)
 have X1:Box ((w.alloc (.cells #[.pointer (some ⟨T,0,none⟩)] 104)).alloc (.cells #[.int .i64 c] 3)) (w.heap.size+1) 3 [.int .i64 c]:=Box.new _ _ _ (by simp)
 have W0E:∃W0,((w.alloc (.cells #[.pointer (some ⟨T,0,none⟩)] 104)).alloc (.cells #[.int .i64 c] 3))=W0:=⟨_,rfl⟩
 have HS:=Lib.hid hS
 have HASC:=Lib.hid hasc
 clear hS hasc
 go_enter Tryz.func127,Tryz.ntmps127
 go_wp2_with fail
 obtain ⟨W0,hW0⟩:=W0E
 try rw [hW0] at H0 X0 X1 ⊢
 clear hW0
 have q0:=X0.cell (i:=0) rfl
 have q1:=X1.cell (i:=0) rfl
 have q7:W0.cell? ⟨T,7,none⟩=some (.slice A cs.length k):=(H0.cell hT).trans h7
 have l0:=X0.lt
 have l1:=X1.lt
 have CF:=Lib.hid (fun (i:Nat) (W:World) (hi:i < cs.length) (hb:Below W0.heap.size W0 W)=>tclassF_any w.heap.size (w.heap.size+1) T A k cs c i W (HS.out.below (H0.trans (hb.mono H0.size))) hi ((hb.cell l0).trans q0) ((hb.cell l1).trans q1) ((hb.cell (by have:=H0.size;simp;omega)).trans q7))
 have SC:=Lib.hid (search_any 172 #[.pointer (some ⟨w.heap.size,0,none⟩),.pointer (some ⟨w.heap.size+1,0,none⟩)] cs.length (fun i=>decide (c≤(cs.getD i ⟨0,0,0⟩).hi)) W0 (enters_of Tryz.func172 (by kernel_rfl) rfl) hbig
  (fun i W hi hb=>by
   have h:=CF.out i W hi hb
   have e:(cs.getD i ⟨0,0,0⟩)=cs[i]:=by simp [List.getD,hi]
   rw [e]
   exact h)
  (fun a b hab hb h=>by
   have e1:(cs.getD a ⟨0,0,0⟩)=cs[a]'(by omega):=by simp [List.getD,show a < cs.length by omega]
   have e2:(cs.getD b ⟨0,0,0⟩)=cs[b]:=by simp [List.getD,hb]
   simp only [e1,e2,decide_eq_true_eq] at h ⊢
   by_cases e:a=b
   ·subst e;exact h
   ·have:=(HASC.out a b (by omega) hb).2 (by omega)
    have:=(HASC.out b b hb hb).1
    omega))
 go_wp2_with fail
 with_reducible refine SC.out.mono ?_
 rintro e W1 ⟨i,rfl,hF,hb1⟩
 have H1:=H0.trans (hb1.mono H0.size)
 have p0:=(hb1.cell l0).trans q0
 have p1:=(hb1.cell l1).trans q1
 have p7:=(hb1.cell (by have:=H0.size;simp;omega)).trans q7
 have hle:=hF.le
 have HF:=Lib.hid hF
 clear SC CF X0 X1 q0 q1 q7 hF
 by_cases hi:i < cs.length
 ·obtain ⟨b,o,rfl,_,hcell⟩:=(HS.out.below H1).at hi
  obtain ⟨c1,c2,c3⟩:=hcell i hi
  clear hcell
  have hhi:c≤cs[i].hi:=by
   have:=HF.out.hi i (Nat.le_refl _) hi
   simpa [List.getD,hi] using this
  have HC:=Lib.hid (show cls cs c=if cs[i].lo≤c then cs[i].val else 0 from by
   by_cases hl:cs[i].lo≤c
   ·rw [if_pos hl];exact cls_at cs c i hi HASC.out hl hhi
   ·rw [if_neg hl]
    refine cls_none cs c fun t ht=>?_
    rintro ⟨g1,g2⟩
    by_cases hti:t < i
    ·have:=HF.out.lo t hti
     simp [List.getD,ht] at this
     omega
    ·by_cases e:t=i
     ·subst e;exact hl g1
     ·have:=(HASC.out i t hi ht).2 (by omega)
      omega)
  clear hhi HF
  generalize cls cs c=r at *
  generalize cs[i].hi=hh at *
  generalize cs[i].lo=ll at *
  generalize cs[i].val=vv at *
  have d1:decide ((i:Int) < (cs.length:Int))=true:=by simpa using hi
  by_cases hl:ll≤c
  ·have d2:decide (ll≤c)=true:=by simpa using hl
   have HR:=Lib.hid (HC.out.trans (if_pos hl))
   go_wp2_with fail
   go_quiet (fail)
   go_wp2_with fail
   go_ret
   exact ⟨by rw [HR.out];rfl,H1.trans ((below_of_drewN _ _).mono H1.size)⟩
  ·have d2:decide (ll≤c)=false:=by simpa using hl
   have HR:=Lib.hid (HC.out.trans (if_neg hl))
   go_wp2_with fail
   go_quiet (fail)
   go_wp2_with fail
   go_ret
   exact ⟨by rw [HR.out];rfl,H1.trans ((below_of_drewN _ _).mono H1.size)⟩
 ·have HC:=Lib.hid (show cls cs c=0 from cls_none cs c fun t ht=>by
   rintro ⟨g1,g2⟩
   have:=HF.out.lo t (by omega)
   simp [List.getD,ht] at this
   omega)
  have d1:decide ((i:Int) < (cs.length:Int))=false:=by simpa using hi
  clear HF
  generalize cls cs c=r at *
  go_wp2_with fail
  go_quiet (fail)
  go_wp2_with fail
  go_ret
  exact ⟨by rw [HC.out];rfl,H1.trans ((below_of_drewN _ _).mono H1.size)⟩
end Go.Proofs.YtkhmjidaeliccaaGreatDoor
