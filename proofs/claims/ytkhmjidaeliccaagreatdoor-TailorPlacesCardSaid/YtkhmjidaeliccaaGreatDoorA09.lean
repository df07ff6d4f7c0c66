/- Texts that are merged into one file: TlRanged, TlChk, Search, RefColl, Key, Tab, Made. -/
import Derived.Test.YtkhmjidaeliccaaGreatDoorA01
import Derived.Test.YtkhmjidaeliccaaGreatDoorA02
import Derived.Test.YtkhmjidaeliccaaGreatDoorA07
import Derived.Test.YtkhmjidaeliccaaGreatDoorA08
import Derived.Deep.Cut
import Derived.Test.YtkhmjidaeliccaaGreatDoorProg
import Derived.Shelf.Abstract
import Derived.Laws.IdiomCopy
import Derived.WideKeyArr
import Derived.RegionTactic
set_option maxRecDepth 100000
set_option maxHeartbeats 51200000
namespace Go.Proofs.YtkhmjidaeliccaaGreatDoor
open Go.RowKit Go.Maps Go.WideMaps Tl
theorem rngT_bad {zs:List Int} {k:Nat} (hk:k < zs.length) (h:¬(0≤zs[k]∧zs[k]≤1114111)):rngT zs=false:=by
 unfold rngT
 rw [Bool.and_eq_false_iff]
 right
 rw [List.all_eq_false]
 exact ⟨zs[k],List.getElem_mem hk,by simpa using h⟩
theorem rngT_good {zs:List Int} (h0:0 < zs.length) (h:∀k,(hk:k < zs.length)→0≤zs[k]∧zs[k]≤1114111):rngT zs=true:=by
 unfold rngT
 rw [Bool.and_eq_true]
 refine ⟨?_,?_⟩
 ·cases zs with
  | nil=>simp at h0
  | cons z r=>rfl
 ·rw [List.all_eq_true]
  intro z hz
  obtain ⟨k,hk,rfl⟩:=List.getElem_of_mem hz
  simpa using h k hk
theorem ranged_any (A:Option Addr) (na ca:Nat) (B:Option Addr) (nb cb:Nat) (t:Tlr) (w:World) (hA:Ints w A t.anc) (hB:Ints w B t.cds) (hna:t.anc.length=na) (hnb:t.cds.length=nb) (hba:na≤1048576) (hbb:nb≤1048576) :
  Calls Tryz.prog 73 #[.agg #[.slice A na ca,.slice B nb cb,.int .i64 t.lvl,.bool t.bef]] w (RetInt (if (rngT t.anc&&rngT t.cds)=true then 0 else 1) w):=by
 subst hna;subst hnb
 obtain ⟨r,hr⟩:∃r:Int,(if (rngT t.anc&&rngT t.cds)=true then 0 else 1)=r:=⟨_,rfl⟩
 have HR:=Lib.hid (show ∀a b,rngT t.anc=a→rngT t.cds=b→r=if (a&&b)=true then 0 else 1 from fun a b ha hb=>by rw [←hr,ha,hb])
 rw [hr]
 have B0:Below w.heap.size w ((w.alloc (.cells #[.slice A t.anc.length ca,.slice B t.cds.length cb,.int .i64 t.lvl,.bool t.bef] 35)).alloc (.cells #[.slice A t.anc.length ca,.slice B t.cds.length cb] 33)):=((Below.refl _ _).alloc (Nat.le_refl _) _).alloc (by simp) _
 have X1:Box ((w.alloc (.cells #[.slice A t.anc.length ca,.slice B t.cds.length cb,.int .i64 t.lvl,.bool t.bef] 35)).alloc (.cells #[.slice A t.anc.length ca,.slice B t.cds.length cb] 33)) (w.heap.size+1) 33 [.slice A t.anc.length ca,.slice B t.cds.length cb]:=Box.new _ _ _ (by simp)
 have W0E:∃W0,((w.alloc (.cells #[.slice A t.anc.length ca,.slice B t.cds.length cb,.int .i64 t.lvl,.bool t.bef] 35)).alloc (.cells #[.slice A t.anc.length ca,.slice B t.cds.length cb] 33))=W0:=⟨_,rfl⟩
 have BA:=Lib.hid (fun k (hk:k < t.anc.length) h=>rngT_bad (zs:=t.anc) hk h)
 have GA:=Lib.hid (fun h0 h=>rngT_good (zs:=t.anc) h0 h)
 have BB:=Lib.hid (fun k (hk:k < t.cds.length) h=>rngT_bad (zs:=t.cds) hk h)
 have GB:=Lib.hid (fun h0 h=>rngT_good (zs:=t.cds) h0 h)
 have EA:=Lib.hid (fun (h:t.anc.length=0)=>show rngT t.anc=false from by rw [List.length_eq_zero_iff.1 h];rfl)
 have EB:=Lib.hid (fun (h:t.cds.length=0)=>show rngT t.cds=false from by rw [List.length_eq_zero_iff.1 h];rfl)
 have HIA:=Lib.hid (fun W (hb:Below w.heap.size w W)=>hA.below hb)
 have HIB:=Lib.hid (fun W (hb:Below w.heap.size w W)=>hB.below hb)
 generalize rngT t.anc=ra at *
 generalize rngT t.cds=rb at *
 clear hr hA hB
 obtain ⟨an,cd,lvl,bef⟩:=t
 dsimp only at *
 go_enter Tryz.func73,Tryz.ntmps73
 go_upto_region 2 with (fail)
 obtain ⟨W0,hW0⟩:=W0E
 try rw [hW0] at B0 X1 ⊢
 clear hW0
 have IA:=Lib.hid (HIA.out W0 B0)
 have IB:=Lib.hid (HIB.out W0 B0)
 clear HIA HIB
 have HX:=Lib.hid X1
 have HB0:=Lib.hid B0
 clear X1 B0
 go_wp2_with fail
 go_loop [13] (fun u=>∃i:Nat,i≤2∧u=.int .i64 i∧(0 < i→ra=true)∧(1 < i→rb=true)) (fun u=>2 - (intOf u).toNat)
 case atStart=>exact ⟨0,by decide,rfl,fun h=>absurd h (by decide),fun h=>absurd h (by decide)⟩
 case round=>
  obtain ⟨i,hi,rfl,h1,h2⟩:=hrel
  rcases show i=0∨i=1∨i=2 by omega with rfl | rfl | rfl
  ·have cx:=HX.out.cell (i:=0) rfl
   have H1:=Lib.hid h1
   clear h1 h2
   by_cases h0:an.length=0
   ·have HF:=Lib.hid (show r=1 from by rw [HR.out false rb (EA.out h0) rfl];rfl)
    have d0:((an.length:Int)==0)=true:=by rw [h0];rfl
    clear h0 HR BA GA BB GB EA EB
    go_wp2_with fail
    go_ret
    rw [HF.out]
    exact ⟨rfl,HB0.out⟩
   ·have d0:((an.length:Int)==0)=false:=by rw [beq_eq_false_iff_ne];omega
    go_wp2_with fail
    go_loop [22] (fun u=>∃k:Nat,k≤an.length∧u=.int .i64 k∧Hid (∀j,(hj:j < an.length)→j < k→0≤an[j]∧an[j]≤1114111)) (fun u=>an.length - (intOf u).toNat)
    case atStart=>exact ⟨0,Nat.zero_le _,rfl,Lib.hid (fun j _ h=>absurd h (by omega))⟩
    case round=>
     obtain ⟨k,hk,rfl,hall⟩:=hrel
     by_cases hlt:k < an.length
     ·obtain ⟨b1,o1,rfl,hcell⟩:=IA.out.at hlt
      have cz:=hcell k hlt
      have HBk:=Lib.hid (fun h=>BA.out k hlt h)
      have HNk:=Lib.hid (fun (h:0≤an[k]∧an[k]≤1114111)=>show ∀j,(hj:j < an.length)→j < k+1→0≤an[j]∧an[j]≤1114111 from fun j hj hj2=>by
       by_cases e:j < k
       ·exact hall.out j hj e
       ·obtain rfl:j=k:=by omega
        exact h)
      clear hcell hall
      generalize an[k]=z at *
      by_cases hz:0≤z∧z≤1114111
      ·have HN:=Lib.hid (HNk.out hz)
       have KV:=Lib.hid (cpValid_any z W0)
       have dz:inR 0 1114111 z=true:=inR_true hz.1 hz.2
       rw [dz] at KV
       clear hz dz HBk HNk
       go_wp2_with fail
       with_reducible refine KV.out.mono ?_
       rintro e W1 ⟨rfl,rfl⟩
       go_wp2_with fail
       go_round
       case rel=>exact ⟨k+1,by omega,by go_num,HN⟩
       case measure=>simp [intOf];omega
      ·have HF:=Lib.hid (show r=1 from by rw [HR.out false rb (HBk.out hz) rfl];rfl)
       have KV:=Lib.hid (cpValid_any z W0)
       have dz:inR 0 1114111 z=false:=inR_false.2 (by omega)
       rw [dz] at KV
       clear hz dz HBk HNk
       go_wp2_with fail
       with_reducible refine KV.out.mono ?_
       rintro e W1 ⟨rfl,rfl⟩
       go_wp2_with fail
       go_ret
       rw [HF.out]
       exact ⟨rfl,HB0.out⟩
     ·obtain rfl:k=an.length:=by omega
      have HG:=Lib.hid (GA.out (by omega) (fun j hj=>hall.out j hj hj))
      clear hall
      go_wp2_with fail
      go_round
      case rel=>exact ⟨1,by decide,by go_num,fun _=>HG.out,fun h=>absurd h (by decide)⟩
      case measure=>simp [intOf]
  ·have cx:=HX.out.cell (i:=1) rfl
   have H1:=Lib.hid h1
   clear h1 h2
   by_cases h0:cd.length=0
   ·have HF:=Lib.hid (show r=1 from by rw [HR.out ra false rfl (EB.out h0)];cases ra <;> rfl)
    have d0:((cd.length:Int)==0)=true:=by rw [h0];rfl
    clear h0 HR BA GA BB GB EA EB
    go_wp2_with fail
    go_ret
    rw [HF.out]
    exact ⟨rfl,HB0.out⟩
   ·have d0:((cd.length:Int)==0)=false:=by rw [beq_eq_false_iff_ne];omega
    go_wp2_with fail
    go_loop [22] (fun u=>∃k:Nat,k≤cd.length∧u=.int .i64 k∧Hid (∀j,(hj:j < cd.length)→j < k→0≤cd[j]∧cd[j]≤1114111)) (fun u=>cd.length - (intOf u).toNat)
    case atStart=>exact ⟨0,Nat.zero_le _,rfl,Lib.hid (fun j _ h=>absurd h (by omega))⟩
    case round=>
     obtain ⟨k,hk,rfl,hall⟩:=hrel
     by_cases hlt:k < cd.length
     ·obtain ⟨b1,o1,rfl,hcell⟩:=IB.out.at hlt
      have cz:=hcell k hlt
      have HBk:=Lib.hid (fun h=>BB.out k hlt h)
      have HNk:=Lib.hid (fun (h:0≤cd[k]∧cd[k]≤1114111)=>show ∀j,(hj:j < cd.length)→j < k+1→0≤cd[j]∧cd[j]≤1114111 from fun j hj hj2=>by
       by_cases e:j < k
       ·exact hall.out j hj e
       ·obtain rfl:j=k:=by omega
        exact h)
      clear hcell hall
      generalize cd[k]=z at *
      by_cases hz:0≤z∧z≤1114111
      ·have HN:=Lib.hid (HNk.out hz)
       have KV:=Lib.hid (cpValid_any z W0)
       have dz:inR 0 1114111 z=true:=inR_true hz.1 hz.2
       rw [dz] at KV
       clear hz dz HBk HNk
       go_wp2_with fail
       with_reducible refine KV.out.mono ?_
       rintro e W1 ⟨rfl,rfl⟩
       go_wp2_with fail
       go_round
       case rel=>exact ⟨k+1,by omega,by go_num,HN⟩
       case measure=>simp [intOf];omega
      ·have HF:=Lib.hid (show r=1 from by rw [HR.out ra false rfl (HBk.out hz)];cases ra <;> rfl)
       have KV:=Lib.hid (cpValid_any z W0)
       have dz:inR 0 1114111 z=false:=inR_false.2 (by omega)
       rw [dz] at KV
       clear hz dz HBk HNk
       go_wp2_with fail
       with_reducible refine KV.out.mono ?_
       rintro e W1 ⟨rfl,rfl⟩
       go_wp2_with fail
       go_ret
       rw [HF.out]
       exact ⟨rfl,HB0.out⟩
     ·obtain rfl:k=cd.length:=by omega
      have HG:=Lib.hid (GB.out (by omega) (fun j hj=>hall.out j hj hj))
      clear hall
      go_wp2_with fail
      go_round
      case rel=>exact ⟨2,by decide,by go_num,fun _=>H1.out (by decide),fun _=>HG.out⟩
      case measure=>simp [intOf]
  ·have HF:=Lib.hid (show r=0 from by rw [HR.out true true (h1 (by decide)) (h2 (by decide))];rfl)
   clear h1 h2 HR BA GA BB GB EA EB
   go_wp2_with fail
   go_ret
   rw [HF.out]
   exact ⟨rfl,HB0.out⟩
end Go.Proofs.YtkhmjidaeliccaaGreatDoor
namespace Go.Proofs.YtkhmjidaeliccaaGreatDoor
open Go.RowKit Go.Maps Go.WideMaps Tl
def chkV (x:Nrm) (c:Col) (t:Tlr):Int:=if nErr x≠0 then nErr x else if colErr c≠0 then colErr c else if kndT t=true then (if (rngT t.anc&&rngT t.cds)=true then 0 else 1) else 8
theorem checked_any (A0:Option Addr) (n0 k0:Nat) (A1:Option Addr) (n1 k1:Nat) (A2:Option Addr) (n2 k2:Nat) (x:Nrm) (C:Option Addr) (n a:Nat) (B:Option Addr) (m b:Nat) (c:Col) (P:Option Addr) (pk:Nat) (Q:Option Addr) (qk:Nat) (t:Tlr) (w:World) (hN:NrmAt w A0 n0 A1 n1 A2 n2 x) (hz:NrmSz x) (hL:Laid w) (hC:ColAt w C n B m c) (hcz:ColSz c) (hP:Ints w P t.anc) (hQ:Ints w Q t.cds) (hpl:t.anc.length≤1048576) (hql:t.cds.length≤1048576) :
  Calls Tryz.prog 34 #[.agg #[.slice A0 n0 k0,.slice A1 n1 k1,.slice A2 n2 k2],colV C n a B m b c,.agg #[.slice P t.anc.length pk,.slice Q t.cds.length qk,.int .i64 t.lvl,.bool t.bef]] w (RetInt (chkV x c t) w):=by
 have B0:Below w.heap.size w (((w.alloc (.cells #[.slice A0 n0 k0,.slice A1 n1 k1,.slice A2 n2 k2] 28)).alloc (.cells #[.slice C n a,.slice B m b,.int .i64 c.base,.int .i64 c.second,.int .i64 c.third] 32)).alloc (.cells #[.slice P t.anc.length pk,.slice Q t.cds.length qk,.int .i64 t.lvl,.bool t.bef] 35)):=(((Below.refl _ _).alloc (Nat.le_refl _) _).alloc (by simp) _).alloc (by simp;omega) _
 have X0:Box (((w.alloc (.cells #[.slice A0 n0 k0,.slice A1 n1 k1,.slice A2 n2 k2] 28)).alloc (.cells #[.slice C n a,.slice B m b,.int .i64 c.base,.int .i64 c.second,.int .i64 c.third] 32)).alloc (.cells #[.slice P t.anc.length pk,.slice Q t.cds.length qk,.int .i64 t.lvl,.bool t.bef] 35)) w.heap.size 28 [.slice A0 n0 k0,.slice A1 n1 k1,.slice A2 n2 k2]:=((Box.new w 28 [.slice A0 n0 k0,.slice A1 n1 k1,.slice A2 n2 k2] rfl).below ((Below.refl _ _).alloc (Nat.le_refl _) _) (by simp)).below ((Below.refl _ _).alloc (Nat.le_refl _) _) (by simp;omega)
 have X1:Box (((w.alloc (.cells #[.slice A0 n0 k0,.slice A1 n1 k1,.slice A2 n2 k2] 28)).alloc (.cells #[.slice C n a,.slice B m b,.int .i64 c.base,.int .i64 c.second,.int .i64 c.third] 32)).alloc (.cells #[.slice P t.anc.length pk,.slice Q t.cds.length qk,.int .i64 t.lvl,.bool t.bef] 35)) (w.heap.size+1) 32 [.slice C n a,.slice B m b,.int .i64 c.base,.int .i64 c.second,.int .i64 c.third]:=(Box.new (w.alloc (.cells #[.slice A0 n0 k0,.slice A1 n1 k1,.slice A2 n2 k2] 28)) 32 [.slice C n a,.slice B m b,.int .i64 c.base,.int .i64 c.second,.int .i64 c.third] (by simp)).below ((Below.refl _ _).alloc (Nat.le_refl _) _) (by simp)
 have X2:Box (((w.alloc (.cells #[.slice A0 n0 k0,.slice A1 n1 k1,.slice A2 n2 k2] 28)).alloc (.cells #[.slice C n a,.slice B m b,.int .i64 c.base,.int .i64 c.second,.int .i64 c.third] 32)).alloc (.cells #[.slice P t.anc.length pk,.slice Q t.cds.length qk,.int .i64 t.lvl,.bool t.bef] 35)) (w.heap.size+2) 35 [.slice P t.anc.length pk,.slice Q t.cds.length qk,.int .i64 t.lvl,.bool t.bef]:=Box.new ((w.alloc (.cells #[.slice A0 n0 k0,.slice A1 n1 k1,.slice A2 n2 k2] 28)).alloc (.cells #[.slice C n a,.slice B m b,.int .i64 c.base,.int .i64 c.second,.int .i64 c.third] 32)) 35 [.slice P t.anc.length pk,.slice Q t.cds.length qk,.int .i64 t.lvl,.bool t.bef] (by simp)
 have W0E:∃W0,(((w.alloc (.cells #[.slice A0 n0 k0,.slice A1 n1 k1,.slice A2 n2 k2] 28)).alloc (.cells #[.slice C n a,.slice B m b,.int .i64 c.base,.int .i64 c.second,.int .i64 c.third] 32)).alloc (.cells #[.slice P t.anc.length pk,.slice Q t.cds.length qk,.int .i64 t.lvl,.bool t.bef] 35))=W0:=⟨_,rfl⟩
 have K1:=Lib.hid (fun W (hb:Below w.heap.size w W)=>dCheck_any A0 n0 k0 A1 n1 k1 A2 n2 k2 x W (hN.below hb) hz (hL.below hb))
 have K2:=Lib.hid (fun W (hb:Below w.heap.size w W)=>ckColl_any C n a B m b c W (hC.below hb) hcz)
 have K3:=Lib.hid (fun W=>known_ok_any P t.anc.length pk Q t.cds.length qk t W)
 have K4:=Lib.hid (fun W (hb:Below w.heap.size w W)=>ranged_any P t.anc.length pk Q t.cds.length qk t W (hP.below hb) (hQ.below hb) rfl rfl hpl hql)
 unfold RetInt at K1 K2 K3 K4 ⊢
 unfold colV at K2 ⊢
 obtain ⟨e1,he1⟩:∃e,nErr x=e:=⟨_,rfl⟩
 obtain ⟨e2,he2⟩:∃e,colErr c=e:=⟨_,rfl⟩
 obtain ⟨e3,he3⟩:∃e:Int,(if kndT t=true then 0 else 8)=e:=⟨_,rfl⟩
 obtain ⟨e4,he4⟩:∃e:Int,(if (rngT t.anc&&rngT t.cds)=true then 0 else 1)=e:=⟨_,rfl⟩
 have HV:=Lib.hid (show chkV x c t=if e1≠0 then e1 else if e2≠0 then e2 else if e3≠0 then e3 else e4 from by
  unfold chkV
  rw [he1,he2,he4,←he3]
  cases kndT t <;> simp)
 rw [he1] at K1;rw [he2] at K2;rw [he3] at K3;rw [he4] at K4
 generalize chkV x c t=r at *
 clear he1 he2 he3 he4 hN hz hL hC hcz hP hQ
 generalize t.anc.length=pn at *
 generalize t.cds.length=qn at *
 generalize t.lvl=lv at *
 generalize t.bef=bf at *
 go_enter Tryz.func34,Tryz.ntmps34
 go_upto_region 1 with (fail)
 obtain ⟨W0,hW0⟩:=W0E
 try rw [hW0] at B0 X0 X1 X2 ⊢
 clear hW0
 have l0:=X0.lt
 have l1:=X1.lt
 have l2:=X2.lt
 have c10:=X0.cell (i:=0) rfl
 have c11:=X0.cell (i:=1) rfl
 have c12:=X0.cell (i:=2) rfl
 have HB0:=Lib.hid B0
 have HX0:=Lib.hid X0
 have HX1:=Lib.hid X1
 have HX2:=Lib.hid X2
 clear X0 X1 X2 B0
 have C1:=Lib.hid (K1.out W0 HB0.out)
 clear K1
 go_wp2_with fail
 with_reducible refine C1.out.mono ?_
 rintro e Wa ⟨rfl,hb1⟩
 have HBa:=Lib.hid (HB0.out.trans (hb1.mono HB0.out.size))
 have HXa1:=Lib.hid (HX1.out.below hb1 l1)
 have HXa2:=Lib.hid (HX2.out.below hb1 l2)
 clear hb1 c10 c11 c12 C1
 by_cases q1:e1=0
 ·have d1:(e1 != 0)=false:=by simp [q1]
  have HV2:=Lib.hid (show r=if e2≠0 then e2 else if e3≠0 then e3 else e4 from by rw [HV.out,if_neg (by simp [q1])])
  clear q1 HV
  have ca0:=HXa1.out.cell (i:=0) rfl
  have ca1:=HXa1.out.cell (i:=1) rfl
  have ca2:=HXa1.out.cell (i:=2) rfl
  have ca3:=HXa1.out.cell (i:=3) rfl
  have ca4:=HXa1.out.cell (i:=4) rfl
  have C2:=Lib.hid (K2.out Wa HBa.out)
  clear K2
  go_wp2_with fail
  with_reducible refine C2.out.mono ?_
  rintro e Wb ⟨rfl,hb1⟩
  have HBb:=Lib.hid (HBa.out.trans (hb1.mono HBa.out.size))
  have HXb2:=Lib.hid (HXa2.out.below hb1 HXa2.out.lt)
  clear hb1 C2 ca0 ca1 ca2 ca3 ca4
  by_cases q2:e2=0
  ·have d2:(e2 != 0)=false:=by simp [q2]
   have HV3:=Lib.hid (show r=if e3≠0 then e3 else e4 from by rw [HV2.out,if_neg (by simp [q2])])
   clear q2 HV2
   have cb0:=HXb2.out.cell (i:=0) rfl
   have cb1:=HXb2.out.cell (i:=1) rfl
   have cb2:=HXb2.out.cell (i:=2) rfl
   have cb3:=HXb2.out.cell (i:=3) rfl
   have C3:=Lib.hid (K3.out Wb)
   clear K3
   go_wp2_with fail
   with_reducible refine C3.out.mono ?_
   rintro e Wc ⟨rfl,hb1⟩
   have HBc:=Lib.hid (HBb.out.trans (hb1.mono HBb.out.size))
   have HXc2:=Lib.hid (HXb2.out.below hb1 HXb2.out.lt)
   clear hb1 C3 cb0 cb1 cb2 cb3
   by_cases q3:e3=0
   ·have d3:(e3 != 0)=false:=by simp [q3]
    have HV4:=Lib.hid (show r=e4 from by rw [HV3.out,if_neg (by simp [q3])])
    clear q3 HV3
    have cc0:=HXc2.out.cell (i:=0) rfl
    have cc1:=HXc2.out.cell (i:=1) rfl
    have cc2:=HXc2.out.cell (i:=2) rfl
    have cc3:=HXc2.out.cell (i:=3) rfl
    have C4:=Lib.hid (K4.out Wc HBc.out)
    clear K4
    go_wp2_with fail
    with_reducible refine C4.out.mono ?_
    rintro e Wd ⟨rfl,hb1⟩
    have HBd:=Lib.hid (HBc.out.trans (hb1.mono HBc.out.size))
    clear hb1 C4 cc0 cc1 cc2 cc3
    go_wp2_with fail
    go_ret
    exact ⟨by rw [HV4.out] <;> rfl,HBd.out⟩
   ·have d3:(e3 != 0)=true:=by simp [q3]
    have HV4:=Lib.hid (show r=e3 from by rw [HV3.out,if_pos q3])
    clear q3
    go_wp2_with fail
    go_ret
    exact ⟨by rw [HV4.out] <;> rfl,HBc.out⟩
  ·have d2:(e2 != 0)=true:=by simp [q2]
   have HV4:=Lib.hid (show r=e2 from by rw [HV2.out,if_pos q2])
   clear q2
   go_wp2_with fail
   go_ret
   exact ⟨by rw [HV4.out] <;> rfl,HBb.out⟩
 ·have d1:(e1 != 0)=true:=by simp [q1]
  have HV4:=Lib.hid (show r=e1 from by rw [HV.out,if_pos q1])
  clear q1
  go_wp2_with fail
  go_ret
  exact ⟨by rw [HV4.out] <;> rfl,HBa.out⟩
end Go.Proofs.YtkhmjidaeliccaaGreatDoor
namespace Go.Proofs.YtkhmjidaeliccaaGreatDoor
open Go.RowKit
structure Found (n:Nat) (p:Nat→Bool) (i:Nat):Prop where
 le:i≤n
 lo:∀t,t < i→p t=false
 hi:∀t,i≤t→t < n→p t=true
def RetFound (n:Nat) (p:Nat→Bool) (w:World) (e:Ending) (w':World):Prop:=∃i:Nat,e=.returned (.int .i64 i)∧Found n p i∧Below w.heap.size w w'
theorem search_any (g:FuncId) (cb:Array Value) (n:Nat) (p:Nat→Bool) (w:World) (eg:∀args W,(callFunc g args).run Tryz.prog W=.ok (.enter g args) W) (hbig:n≤1099511627776)
  (hf:∀(i:Nat) (W:World),i < n→Below w.heap.size w W→Calls Tryz.prog g (#[.int .i64 i]++cb) W (RetBool (p i) W)) (hm:∀a b,a≤b→b < n→p a=true→p b=true) :
  Calls Tryz.prog 171 #[.int .i64 n,.func (.func g) #[] cb] w (RetFound n p w):=by
 have HF:=Lib.hid hf
 have HM:=Lib.hid hm
 clear hf hm
 go_enter Tryz.func171,Tryz.ntmps171
 go_wp2
 go_loopw [5,6] (fun u v wr=>∃i j:Nat,i≤j∧j≤n∧u=.int .i64 i∧v=.int .i64 j∧(∀t,t < i→p t=false)∧(∀t,j≤t→t < n→p t=true)∧Below w.heap.size w wr)
  (fun u v _=>(intOf v).toNat - (intOf u).toNat)
 case atStart=>exact ⟨0,n,Nat.zero_le _,Nat.le_refl _,rfl,rfl,fun t h=>by omega,fun t h1 h2=>by omega,Below.refl _ _⟩
 case round=>
  obtain ⟨i,j,hij,hj,rfl,rfl,hlo,hhi,hbel⟩:=hrel
  have HLO:=Lib.hid hlo;have HHI:=Lib.hid hhi;clear hlo hhi
  by_cases hlt:i < j
  ·obtain ⟨h,hh,h1,h2,h3⟩:∃h:Nat,((i:Int)+(j:Int)) / 2=(h:Int)∧i≤h∧h < j∧h < n:=⟨(i+j) / 2,by omega,by omega,by omega,by omega⟩
   have C:=Lib.hid (HF.out h wr h3 hbel)
   cases hp:p h with
   | true=>
    have HP:=Lib.hid hp
    rw [hp] at C
    clear hp
    go_wp2_with (go_at_fn g;refine C.out.mono ?_;rintro e w1 ⟨rfl,hb1⟩)
    go_roundw
    case rel=>exact ⟨i,h,h1,by omega,rfl,rfl,HLO.out,fun t g1 g2=>HM.out h t g1 g2 HP.out,hbel.trans (hb1.mono hbel.size)⟩
    case measure=>simp [intOf];omega
   | false=>
    have HP:=Lib.hid hp
    rw [hp] at C
    clear hp
    go_wp2_with (go_at_fn g;refine C.out.mono ?_;rintro e w1 ⟨rfl,hb1⟩)
    go_roundw
    case rel=>
     refine ⟨h+1,j,by omega,hj,by go_num,rfl,fun t g1=>?_,HHI.out,hbel.trans (hb1.mono hbel.size)⟩
     cases ht:p t with
     | false=>rfl
     | true=>have:=HM.out t h (by omega) h3 ht;rw [HP.out] at this;cases this
    case measure=>simp [intOf];omega
  ·obtain rfl:i=j:=by omega
   go_wp2_with fail
   go_ret
   exact ⟨i,rfl,⟨hj,HLO.out,HHI.out⟩,hbel⟩
end Go.Proofs.YtkhmjidaeliccaaGreatDoor
namespace Go.Proofs.YtkhmjidaeliccaaGreatDoor
open Go.RowKit Go.Maps Go.WideMaps
end Go.Proofs.YtkhmjidaeliccaaGreatDoor
namespace Go.Proofs.YtkhmjidaeliccaaGreatDoor
open Go.RowKit Go.Maps Go.WideMaps
def keyL (zs:List Int):List Int:=(zs.length:Int)::(zs++List.replicate (8 - zs.length) 0)
def keyV (zs:List Int):Value:=.agg ((keyL zs).map (Value.int .i64)).toArray
def RetKey (zs:List Int) (w:World) (e:Ending) (w':World):Prop:=e=.returned (keyV zs)∧Below w.heap.size w w'
theorem info_int1:(Tryz.prog.info? 3).map (·.size)=some 1:=by kernel_rfl
theorem results_key (tmps:Array Value) (w:World) {b:Nat} {z0 z1 z2 z3 z4 z5 z6 z7 z8:Int} (ha:tmps.getD 2 undef=.pointer (some ⟨b,0,none⟩))
  (c0:w.cell? ⟨b,0,none⟩=some (.int .i64 z0)) (c1:w.cell? ⟨b,1,none⟩=some (.int .i64 z1)) (c2:w.cell? ⟨b,2,none⟩=some (.int .i64 z2)) (c3:w.cell? ⟨b,3,none⟩=some (.int .i64 z3)) (c4:w.cell? ⟨b,4,none⟩=some (.int .i64 z4)) (c5:w.cell? ⟨b,5,none⟩=some (.int .i64 z5)) (c6:w.cell? ⟨b,6,none⟩=some (.int .i64 z6)) (c7:w.cell? ⟨b,7,none⟩=some (.int .i64 z7)) (c8:w.cell? ⟨b,8,none⟩=some (.int .i64 z8)) :
  (results Tryz.f117 tmps).run Tryz.prog w=.ok (.agg #[.int .i64 z0,.int .i64 z1,.int .i64 z2,.int .i64 z3,.int .i64 z4,.int .i64 z5,.int .i64 z6,.int .i64 z7,.int .i64 z8]) w:=by
 have hr:Tryz.f117.results=#[.cell 2 169]:=rfl
 unfold results
 rw [hr]
 simp only [ha,List.mapM_toArray,List.mapM_cons,List.mapM_nil,asAddr]
 go_simp
theorem keyOf_1 (A:Option Addr) (kc:Nat) (a0:Int) (w:World) (hA:Ints w A [a0]):Calls Tryz.prog 117 #[.slice A 1 kc] w (RetKey [a0] w):=by
 obtain ⟨b,o,rfl,hc⟩:=hA.at (k:=0) (by simp)
 have hs:=fun (W:World)=>run_copy_cells (P:=Tryz.prog) W 33 33 3 3 (w.heap.size+1) 1 8 8 ⟨b,o,none⟩ 1 kc [.int .i64 a0] Tryz.underlying33 info_int1 rfl
 have hI:Ints ((w.alloc (.cells #[.int .i64 0,.int .i64 0,.int .i64 0,.int .i64 0,.int .i64 0,.int .i64 0,.int .i64 0,.int .i64 0,.int .i64 0] 169)).alloc (.cells #[.int .i64 1,.int .i64 0,.int .i64 0,.int .i64 0,.int .i64 0,.int .i64 0,.int .i64 0,.int .i64 0,.int .i64 0] 169)) (some ⟨b,o,none⟩) [a0]:=Sl.alloc (Sl.alloc hA _) _
 have hcp:=hs _ (fun j v hv=>by
  obtain ⟨b',o',h1,h2⟩:=hI (by simp)
  injection h1 with h1
  injection h1 with h1 h3
  subst h1;subst h3
  have:=h2 j v (by simpa using hv)
  unfold Addr.add
  split
  ·next h0=>subst h0;simpa using this
  ·exact this) (fun j hj=>by
   have:j < 8:=by simp at hj;omega
   rcases j with _ | _ | _ | _ | _ | _ | _ | _ | j <;> first | (simp;done) | omega) (fun j hj=>by simp) (oneCell_ints [a0])
 simp only [World.setCells,goInt] at hcp
 clear hs hI hc
 go_enter Tryz.func117,Tryz.ntmps117
 go_wp2_with fail
 (try simp only [Exit.inBlock,Exit.then]);refine bodyPost_ret (results_key _ _ (b:=w.heap.size) (z0:=1) (z1:=a0) (z2:=0) (z3:=0) (z4:=0) (z5:=0) (z6:=0) (z7:=0) (z8:=0) rfl (by go_simp) (by go_simp) (by go_simp) (by go_simp) (by go_simp) (by go_simp) (by go_simp) (by go_simp) (by go_simp)) rfl ?_
 exact ⟨rfl,((Below.refl _ _).alloc (Nat.le_refl _) _).alloc (by simp) _⟩
theorem keyOf_2 (A:Option Addr) (kc:Nat) (a0 a1:Int) (w:World) (hA:Ints w A [a0,a1]):Calls Tryz.prog 117 #[.slice A 2 kc] w (RetKey [a0,a1] w):=by
 obtain ⟨b,o,rfl,hc⟩:=hA.at (k:=0) (by simp)
 have hs:=fun (W:World)=>run_copy_cells (P:=Tryz.prog) W 33 33 3 3 (w.heap.size+1) 1 8 8 ⟨b,o,none⟩ 2 kc [.int .i64 a0,.int .i64 a1] Tryz.underlying33 info_int1 rfl
 have hI:Ints ((w.alloc (.cells #[.int .i64 0,.int .i64 0,.int .i64 0,.int .i64 0,.int .i64 0,.int .i64 0,.int .i64 0,.int .i64 0,.int .i64 0] 169)).alloc (.cells #[.int .i64 2,.int .i64 0,.int .i64 0,.int .i64 0,.int .i64 0,.int .i64 0,.int .i64 0,.int .i64 0,.int .i64 0] 169)) (some ⟨b,o,none⟩) [a0,a1]:=Sl.alloc (Sl.alloc hA _) _
 have hcp:=hs _ (fun j v hv=>by
  obtain ⟨b',o',h1,h2⟩:=hI (by simp)
  injection h1 with h1
  injection h1 with h1 h3
  subst h1;subst h3
  have:=h2 j v (by simpa using hv)
  unfold Addr.add
  split
  ·next h0=>subst h0;simpa using this
  ·exact this) (fun j hj=>by
   have:j < 8:=by simp at hj;omega
   rcases j with _ | _ | _ | _ | _ | _ | _ | _ | j <;> first | (simp;done) | omega) (fun j hj=>by simp) (oneCell_ints [a0,a1])
 simp only [World.setCells,goInt] at hcp
 clear hs hI hc
 go_enter Tryz.func117,Tryz.ntmps117
 go_wp2_with fail
 (try simp only [Exit.inBlock,Exit.then]);refine bodyPost_ret (results_key _ _ (b:=w.heap.size) (z0:=2) (z1:=a0) (z2:=a1) (z3:=0) (z4:=0) (z5:=0) (z6:=0) (z7:=0) (z8:=0) rfl (by go_simp) (by go_simp) (by go_simp) (by go_simp) (by go_simp) (by go_simp) (by go_simp) (by go_simp) (by go_simp)) rfl ?_
 exact ⟨rfl,((Below.refl _ _).alloc (Nat.le_refl _) _).alloc (by simp) _⟩
theorem keyOf_3 (A:Option Addr) (kc:Nat) (a0 a1 a2:Int) (w:World) (hA:Ints w A [a0,a1,a2]):Calls Tryz.prog 117 #[.slice A 3 kc] w (RetKey [a0,a1,a2] w):=by
 obtain ⟨b,o,rfl,hc⟩:=hA.at (k:=0) (by simp)
 have hs:=fun (W:World)=>run_copy_cells (P:=Tryz.prog) W 33 33 3 3 (w.heap.size+1) 1 8 8 ⟨b,o,none⟩ 3 kc [.int .i64 a0,.int .i64 a1,.int .i64 a2] Tryz.underlying33 info_int1 rfl
 have hI:Ints ((w.alloc (.cells #[.int .i64 0,.int .i64 0,.int .i64 0,.int .i64 0,.int .i64 0,.int .i64 0,.int .i64 0,.int .i64 0,.int .i64 0] 169)).alloc (.cells #[.int .i64 3,.int .i64 0,.int .i64 0,.int .i64 0,.int .i64 0,.int .i64 0,.int .i64 0,.int .i64 0,.int .i64 0] 169)) (some ⟨b,o,none⟩) [a0,a1,a2]:=Sl.alloc (Sl.alloc hA _) _
 have hcp:=hs _ (fun j v hv=>by
  obtain ⟨b',o',h1,h2⟩:=hI (by simp)
  injection h1 with h1
  injection h1 with h1 h3
  subst h1;subst h3
  have:=h2 j v (by simpa using hv)
  unfold Addr.add
  split
  ·next h0=>subst h0;simpa using this
  ·exact this) (fun j hj=>by
   have:j < 8:=by simp at hj;omega
   rcases j with _ | _ | _ | _ | _ | _ | _ | _ | j <;> first | (simp;done) | omega) (fun j hj=>by simp) (oneCell_ints [a0,a1,a2])
 simp only [World.setCells,goInt] at hcp
 clear hs hI hc
 go_enter Tryz.func117,Tryz.ntmps117
 go_wp2_with fail
 (try simp only [Exit.inBlock,Exit.then]);refine bodyPost_ret (results_key _ _ (b:=w.heap.size) (z0:=3) (z1:=a0) (z2:=a1) (z3:=a2) (z4:=0) (z5:=0) (z6:=0) (z7:=0) (z8:=0) rfl (by go_simp) (by go_simp) (by go_simp) (by go_simp) (by go_simp) (by go_simp) (by go_simp) (by go_simp) (by go_simp)) rfl ?_
 exact ⟨rfl,((Below.refl _ _).alloc (Nat.le_refl _) _).alloc (by simp) _⟩
theorem keyOf_4 (A:Option Addr) (kc:Nat) (a0 a1 a2 a3:Int) (w:World) (hA:Ints w A [a0,a1,a2,a3]):Calls Tryz.prog 117 #[.slice A 4 kc] w (RetKey [a0,a1,a2,a3] w):=by
 obtain ⟨b,o,rfl,hc⟩:=hA.at (k:=0) (by simp)
 have hs:=fun (W:World)=>run_copy_cells (P:=Tryz.prog) W 33 33 3 3 (w.heap.size+1) 1 8 8 ⟨b,o,none⟩ 4 kc [.int .i64 a0,.int .i64 a1,.int .i64 a2,.int .i64 a3] Tryz.underlying33 info_int1 rfl
 have hI:Ints ((w.alloc (.cells #[.int .i64 0,.int .i64 0,.int .i64 0,.int .i64 0,.int .i64 0,.int .i64 0,.int .i64 0,.int .i64 0,.int .i64 0] 169)).alloc (.cells #[.int .i64 4,.int .i64 0,.int .i64 0,.int .i64 0,.int .i64 0,.int .i64 0,.int .i64 0,.int .i64 0,.int .i64 0] 169)) (some ⟨b,o,none⟩) [a0,a1,a2,a3]:=Sl.alloc (Sl.alloc hA _) _
 have hcp:=hs _ (fun j v hv=>by
  obtain ⟨b',o',h1,h2⟩:=hI (by simp)
  injection h1 with h1
  injection h1 with h1 h3
  subst h1;subst h3
  have:=h2 j v (by simpa using hv)
  unfold Addr.add
  split
  ·next h0=>subst h0;simpa using this
  ·exact this) (fun j hj=>by
   have:j < 8:=by simp at hj;omega
   rcases j with _ | _ | _ | _ | _ | _ | _ | _ | j <;> first | (simp;done) | omega) (fun j hj=>by simp) (oneCell_ints [a0,a1,a2,a3])
 simp only [World.setCells,goInt] at hcp
 clear hs hI hc
 go_enter Tryz.func117,Tryz.ntmps117
 go_wp2_with fail
 (try simp only [Exit.inBlock,Exit.then]);refine bodyPost_ret (results_key _ _ (b:=w.heap.size) (z0:=4) (z1:=a0) (z2:=a1) (z3:=a2) (z4:=a3) (z5:=0) (z6:=0) (z7:=0) (z8:=0) rfl (by go_simp) (by go_simp) (by go_simp) (by go_simp) (by go_simp) (by go_simp) (by go_simp) (by go_simp) (by go_simp)) rfl ?_
 exact ⟨rfl,((Below.refl _ _).alloc (Nat.le_refl _) _).alloc (by simp) _⟩
theorem keyOf_5 (A:Option Addr) (kc:Nat) (a0 a1 a2 a3 a4:Int) (w:World) (hA:Ints w A [a0,a1,a2,a3,a4]):Calls Tryz.prog 117 #[.slice A 5 kc] w (RetKey [a0,a1,a2,a3,a4] w):=by
 obtain ⟨b,o,rfl,hc⟩:=hA.at (k:=0) (by simp)
 have hs:=fun (W:World)=>run_copy_cells (P:=Tryz.prog) W 33 33 3 3 (w.heap.size+1) 1 8 8 ⟨b,o,none⟩ 5 kc [.int .i64 a0,.int .i64 a1,.int .i64 a2,.int .i64 a3,.int .i64 a4] Tryz.underlying33 info_int1 rfl
 have hI:Ints ((w.alloc (.cells #[.int .i64 0,.int .i64 0,.int .i64 0,.int .i64 0,.int .i64 0,.int .i64 0,.int .i64 0,.int .i64 0,.int .i64 0] 169)).alloc (.cells #[.int .i64 5,.int .i64 0,.int .i64 0,.int .i64 0,.int .i64 0,.int .i64 0,.int .i64 0,.int .i64 0,.int .i64 0] 169)) (some ⟨b,o,none⟩) [a0,a1,a2,a3,a4]:=Sl.alloc (Sl.alloc hA _) _
 have hcp:=hs _ (fun j v hv=>by
  obtain ⟨b',o',h1,h2⟩:=hI (by simp)
  injection h1 with h1
  injection h1 with h1 h3
  subst h1;subst h3
  have:=h2 j v (by simpa using hv)
  unfold Addr.add
  split
  ·next h0=>subst h0;simpa using this
  ·exact this) (fun j hj=>by
   have:j < 8:=by simp at hj;omega
   rcases j with _ | _ | _ | _ | _ | _ | _ | _ | j <;> first | (simp;done) | omega) (fun j hj=>by simp) (oneCell_ints [a0,a1,a2,a3,a4])
 simp only [World.setCells,goInt] at hcp
 clear hs hI hc
 go_enter Tryz.func117,Tryz.ntmps117
 go_wp2_with fail
 (try simp only [Exit.inBlock,Exit.then]);refine bodyPost_ret (results_key _ _ (b:=w.heap.size) (z0:=5) (z1:=a0) (z2:=a1) (z3:=a2) (z4:=a3) (z5:=a4) (z6:=0) (z7:=0) (z8:=0) rfl (by go_simp) (by go_simp) (by go_simp) (by go_simp) (by go_simp) (by go_simp) (by go_simp) (by go_simp) (by go_simp)) rfl ?_
 exact ⟨rfl,((Below.refl _ _).alloc (Nat.le_refl _) _).alloc (by simp) _⟩
theorem keyOf_6 (A:Option Addr) (kc:Nat) (a0 a1 a2 a3 a4 a5:Int) (w:World) (hA:Ints w A [a0,a1,a2,a3,a4,a5]):Calls Tryz.prog 117 #[.slice A 6 kc] w (RetKey [a0,a1,a2,a3,a4,a5] w):=by
 obtain ⟨b,o,rfl,hc⟩:=hA.at (k:=0) (by simp)
 have hs:=fun (W:World)=>run_copy_cells (P:=Tryz.prog) W 33 33 3 3 (w.heap.size+1) 1 8 8 ⟨b,o,none⟩ 6 kc [.int .i64 a0,.int .i64 a1,.int .i64 a2,.int .i64 a3,.int .i64 a4,.int .i64 a5] Tryz.underlying33 info_int1 rfl
 have hI:Ints ((w.alloc (.cells #[.int .i64 0,.int .i64 0,.int .i64 0,.int .i64 0,.int .i64 0,.int .i64 0,.int .i64 0,.int .i64 0,.int .i64 0] 169)).alloc (.cells #[.int .i64 6,.int .i64 0,.int .i64 0,.int .i64 0,.int .i64 0,.int .i64 0,.int .i64 0,.int .i64 0,.int .i64 0] 169)) (some ⟨b,o,none⟩) [a0,a1,a2,a3,a4,a5]:=Sl.alloc (Sl.alloc hA _) _
 have hcp:=hs _ (fun j v hv=>by
  obtain ⟨b',o',h1,h2⟩:=hI (by simp)
  injection h1 with h1
  injection h1 with h1 h3
  subst h1;subst h3
  have:=h2 j v (by simpa using hv)
  unfold Addr.add
  split
  ·next h0=>subst h0;simpa using this
  ·exact this) (fun j hj=>by
   have:j < 8:=by simp at hj;omega
   rcases j with _ | _ | _ | _ | _ | _ | _ | _ | j <;> first | (simp;done) | omega) (fun j hj=>by simp) (oneCell_ints [a0,a1,a2,a3,a4,a5])
 simp only [World.setCells,goInt] at hcp
 clear hs hI hc
 go_enter Tryz.func117,Tryz.ntmps117
 go_wp2_with fail
 (try simp only [Exit.inBlock,Exit.then]);refine bodyPost_ret (results_key _ _ (b:=w.heap.size) (z0:=6) (z1:=a0) (z2:=a1) (z3:=a2) (z4:=a3) (z5:=a4) (z6:=a5) (z7:=0) (z8:=0) rfl (by go_simp) (by go_simp) (by go_simp) (by go_simp) (by go_simp) (by go_simp) (by go_simp) (by go_simp) (by go_simp)) rfl ?_
 exact ⟨rfl,((Below.refl _ _).alloc (Nat.le_refl _) _).alloc (by simp) _⟩
theorem keyOf_7 (A:Option Addr) (kc:Nat) (a0 a1 a2 a3 a4 a5 a6:Int) (w:World) (hA:Ints w A [a0,a1,a2,a3,a4,a5,a6]):Calls Tryz.prog 117 #[.slice A 7 kc] w (RetKey [a0,a1,a2,a3,a4,a5,a6] w):=by
 obtain ⟨b,o,rfl,hc⟩:=hA.at (k:=0) (by simp)
 have hs:=fun (W:World)=>run_copy_cells (P:=Tryz.prog) W 33 33 3 3 (w.heap.size+1) 1 8 8 ⟨b,o,none⟩ 7 kc [.int .i64 a0,.int .i64 a1,.int .i64 a2,.int .i64 a3,.int .i64 a4,.int .i64 a5,.int .i64 a6] Tryz.underlying33 info_int1 rfl
 have hI:Ints ((w.alloc (.cells #[.int .i64 0,.int .i64 0,.int .i64 0,.int .i64 0,.int .i64 0,.int .i64 0,.int .i64 0,.int .i64 0,.int .i64 0] 169)).alloc (.cells #[.int .i64 7,.int .i64 0,.int .i64 0,.int .i64 0,.int .i64 0,.int .i64 0,.int .i64 0,.int .i64 0,.int .i64 0] 169)) (some ⟨b,o,none⟩) [a0,a1,a2,a3,a4,a5,a6]:=Sl.alloc (Sl.alloc hA _) _
 have hcp:=hs _ (fun j v hv=>by
  obtain ⟨b',o',h1,h2⟩:=hI (by simp)
  injection h1 with h1
  injection h1 with h1 h3
  subst h1;subst h3
  have:=h2 j v (by simpa using hv)
  unfold Addr.add
  split
  ·next h0=>subst h0;simpa using this
  ·exact this) (fun j hj=>by
   have:j < 8:=by simp at hj;omega
   rcases j with _ | _ | _ | _ | _ | _ | _ | _ | j <;> first | (simp;done) | omega) (fun j hj=>by simp) (oneCell_ints [a0,a1,a2,a3,a4,a5,a6])
 simp only [World.setCells,goInt] at hcp
 clear hs hI hc
 go_enter Tryz.func117,Tryz.ntmps117
 go_wp2_with fail
 (try simp only [Exit.inBlock,Exit.then]);refine bodyPost_ret (results_key _ _ (b:=w.heap.size) (z0:=7) (z1:=a0) (z2:=a1) (z3:=a2) (z4:=a3) (z5:=a4) (z6:=a5) (z7:=a6) (z8:=0) rfl (by go_simp) (by go_simp) (by go_simp) (by go_simp) (by go_simp) (by go_simp) (by go_simp) (by go_simp) (by go_simp)) rfl ?_
 exact ⟨rfl,((Below.refl _ _).alloc (Nat.le_refl _) _).alloc (by simp) _⟩
theorem keyOf_8 (A:Option Addr) (kc:Nat) (a0 a1 a2 a3 a4 a5 a6 a7:Int) (w:World) (hA:Ints w A [a0,a1,a2,a3,a4,a5,a6,a7]):Calls Tryz.prog 117 #[.slice A 8 kc] w (RetKey [a0,a1,a2,a3,a4,a5,a6,a7] w):=by
 obtain ⟨b,o,rfl,hc⟩:=hA.at (k:=0) (by simp)
 have hs:=fun (W:World)=>run_copy_cells (P:=Tryz.prog) W 33 33 3 3 (w.heap.size+1) 1 8 8 ⟨b,o,none⟩ 8 kc [.int .i64 a0,.int .i64 a1,.int .i64 a2,.int .i64 a3,.int .i64 a4,.int .i64 a5,.int .i64 a6,.int .i64 a7] Tryz.underlying33 info_int1 rfl
 have hI:Ints ((w.alloc (.cells #[.int .i64 0,.int .i64 0,.int .i64 0,.int .i64 0,.int .i64 0,.int .i64 0,.int .i64 0,.int .i64 0,.int .i64 0] 169)).alloc (.cells #[.int .i64 8,.int .i64 0,.int .i64 0,.int .i64 0,.int .i64 0,.int .i64 0,.int .i64 0,.int .i64 0,.int .i64 0] 169)) (some ⟨b,o,none⟩) [a0,a1,a2,a3,a4,a5,a6,a7]:=Sl.alloc (Sl.alloc hA _) _
 have hcp:=hs _ (fun j v hv=>by
  obtain ⟨b',o',h1,h2⟩:=hI (by simp)
  injection h1 with h1
  injection h1 with h1 h3
  subst h1;subst h3
  have:=h2 j v (by simpa using hv)
  unfold Addr.add
  split
  ·next h0=>subst h0;simpa using this
  ·exact this) (fun j hj=>by
   have:j < 8:=by simp at hj;omega
   rcases j with _ | _ | _ | _ | _ | _ | _ | _ | j <;> first | (simp;done) | omega) (fun j hj=>by simp) (oneCell_ints [a0,a1,a2,a3,a4,a5,a6,a7])
 simp only [World.setCells,goInt] at hcp
 clear hs hI hc
 go_enter Tryz.func117,Tryz.ntmps117
 go_wp2_with fail
 (try simp only [Exit.inBlock,Exit.then]);refine bodyPost_ret (results_key _ _ (b:=w.heap.size) (z0:=8) (z1:=a0) (z2:=a1) (z3:=a2) (z4:=a3) (z5:=a4) (z6:=a5) (z7:=a6) (z8:=a7) rfl (by go_simp) (by go_simp) (by go_simp) (by go_simp) (by go_simp) (by go_simp) (by go_simp) (by go_simp) (by go_simp)) rfl ?_
 exact ⟨rfl,((Below.refl _ _).alloc (Nat.le_refl _) _).alloc (by simp) _⟩
theorem keyOf_any (A:Option Addr) (n kc:Nat) (zs:List Int) (w:World) (hA:Ints w A zs) (hn:zs.length=n) (h0:1≤n) (h8:n≤8):Calls Tryz.prog 117 #[.slice A n kc] w (RetKey zs w):=by
 subst hn
 match zs,h0,h8,hA with
 | [a0],_,_,hA=>exact keyOf_1 A kc a0 w hA
 | [a0,a1],_,_,hA=>exact keyOf_2 A kc a0 a1 w hA
 | [a0,a1,a2],_,_,hA=>exact keyOf_3 A kc a0 a1 a2 w hA
 | [a0,a1,a2,a3],_,_,hA=>exact keyOf_4 A kc a0 a1 a2 a3 w hA
 | [a0,a1,a2,a3,a4],_,_,hA=>exact keyOf_5 A kc a0 a1 a2 a3 a4 w hA
 | [a0,a1,a2,a3,a4,a5],_,_,hA=>exact keyOf_6 A kc a0 a1 a2 a3 a4 a5 w hA
 | [a0,a1,a2,a3,a4,a5,a6],_,_,hA=>exact keyOf_7 A kc a0 a1 a2 a3 a4 a5 a6 w hA
 | [a0,a1,a2,a3,a4,a5,a6,a7],_,_,hA=>exact keyOf_8 A kc a0 a1 a2 a3 a4 a5 a6 a7 w hA
 | _::_::_::_::_::_::_::_::_::_,_,h8,_=>simp at h8
end Go.Proofs.YtkhmjidaeliccaaGreatDoor
namespace Go.Proofs.YtkhmjidaeliccaaGreatDoor
open Go.RowKit Go.Maps Go.WideMaps
theorem key_arr:ArrKey Tryz.prog 169 3 9:=⟨Tryz.underlying169,by kernel_rfl,by kernel_rfl,by kernel_rfl⟩
theorem law_key:Keyed Tryz.prog 169:=Keyed.of_law key_arr.law
noncomputable def klit (zs:List Int):Lit:=(keyOf Tryz.prog 169 (keyV zs)).getD (.bool false)
def kok (zs:List Int):Prop:=zs.length≤8∧∀z ∈ zs,(Lit.int .i64 z).wf=true
theorem nine {α:Type} (l:List α) (h:l.length=9):∃a b c d e f g i j,l=[a,b,c,d,e,f,g,i,j]:=by
 match l,h with
 | [a,b,c,d,e,f,g,i,j],_=>exact ⟨a,b,c,d,e,f,g,i,j,rfl⟩
theorem key9 (l:List Int) (h:l.length=9) (hw:∀z ∈ l,(Lit.int .i64 z).wf=true):(keyOf Tryz.prog 169 (.agg (l.map (Value.int .i64)).toArray)).isSome=true:=by
 obtain ⟨z0,z1,z2,z3,z4,z5,z6,z7,z8,rfl⟩:=nine l h
 have w0:=hw z0 (by simp);have w1:=hw z1 (by simp);have w2:=hw z2 (by simp);have w3:=hw z3 (by simp);have w4:=hw z4 (by simp)
 have w5:=hw z5 (by simp);have w6:=hw z6 (by simp);have w7:=hw z7 (by simp);have w8:=hw z8 (by simp)
 have hk:Tryz.prog.keyType 169=true:=by kernel_rfl
 have hu:=Tryz.underlying169
 have hi:=Tryz.underlying3
 have hc9:Tryz.prog.cellsOf 169=9:=by kernel_rfl
 have hc1:Tryz.prog.cellsOf 3=1:=by kernel_rfl
 obtain ⟨m,hm⟩:∃m,Tryz.prog.types.size=m+1:=⟨Tryz.prog.types.size - 1,by kernel_rfl⟩
 unfold keyOf
 rw [hu]
 simp only [hk,hm,Value.formed,hu,hc9]
 unfold Program.keyLits
 rw [hu]
 simp only [hc9,hc1]
 simp [Program.keyLits,hi,w0,w1,w2,w3,w4,w5,w6,w7,w8,List.range,List.range.loop,Value.cells]
theorem keyL_len {zs:List Int} (h:zs.length≤8):(keyL zs).length=9:=by simp [keyL];omega
theorem key_some {zs:List Int} (h:kok zs):keyOf Tryz.prog 169 (keyV zs)=some (klit zs):=by
 have h9:=key9 (keyL zs) (keyL_len h.1) (fun z hz=>by
  simp only [keyL,List.mem_cons,List.mem_append,List.mem_replicate] at hz
  rcases hz with rfl | hz | ⟨_,rfl⟩
  ·have:=h.1;exact wf_small (by omega) (by omega)
  ·exact h.2 z hz
  ·exact wf_small (by omega) (by omega))
 unfold klit
 have e:keyV zs=.agg ((keyL zs).map (Value.int .i64)).toArray:=rfl
 rw [e]
 cases hk:keyOf Tryz.prog 169 (.agg ((keyL zs).map (Value.int .i64)).toArray) with
 | none=>rw [hk] at h9;cases h9
 | some x=>rfl
theorem keyV_inj {xs ys:List Int} (h:keyV xs=keyV ys):xs=ys:=by
 have h1:(keyL xs).map (Value.int .i64)=(keyL ys).map (Value.int .i64):=by
  injection h with h
  exact congrArg Array.toList h
 have h2:keyL xs=keyL ys:=(List.map_inj_right (fun a b e=>by injection e)).1 h1
 unfold keyL at h2
 injection h2 with h3 h4
 exact (List.append_inj h4 (by omega)).1
theorem klit_inj {xs ys:List Int} (hx:kok xs) (hy:kok ys) (h:klit xs=klit ys):xs=ys:=by
 refine keyV_inj ?_
 have a:=key_some hx
 have b:=key_some hy
 rw [h] at a
 exact law_key.inj a b
def lastE (es:List Ent) (zs:List Int):Option (List Elt):=es.foldl (fun r x=>if x.codes=zs then some x.elems else r) none
theorem lastE_snoc (l:List Ent) (x:Ent) (zs:List Int):lastE (l++[x]) zs=if x.codes=zs then some x.elems else lastE l zs:=by simp [lastE,List.foldl_append]
theorem lastE_take {es:List Ent} {i:Nat} (hi:i < es.length) (zs:List Int):lastE (es.take (i+1)) zs=if es[i].codes=zs then some es[i].elems else lastE (es.take i) zs:=by
 rw [List.take_succ_eq_append_getElem hi,lastE_snoc]
def longE (es:List Ent):Int:=es.foldl (fun r x=>max r (x.codes.length:Int)) 0
theorem longE_take {es:List Ent} {i:Nat} (hi:i < es.length):longE (es.take (i+1))=max (longE (es.take i)) (es[i].codes.length:Int):=by
 rw [List.take_succ_eq_append_getElem hi];unfold longE;rw [List.foldl_append];rfl
theorem longE_bd {es:List Ent} {k:Nat} (h:∀x ∈ es,x.codes.length≤k):0≤longE es∧longE es≤k:=by
 unfold longE
 have:∀(l:List Ent) (r:Int),(∀x ∈ l,x.codes.length≤k)→0≤r→r≤k→0≤l.foldl (fun r x=>max r (x.codes.length:Int)) r∧l.foldl (fun r x=>max r (x.codes.length:Int)) r≤k:=by
  intro l
  induction l with
  | nil=>intro r _ h0 h1;exact ⟨h0,h1⟩
  | cons x l ih=>
   intro r hl h0 h1
   have hx:=hl x (by simp)
   exact ih _ (fun y hy=>hl y (by simp [hy])) (by dsimp only;omega) (by dsimp only;omega)
 exact this es 0 h (by omega) (by omega)
theorem longE_ge {es:List Ent} {x:Ent} (h:x ∈ es):(x.codes.length:Int)≤longE es:=by
 unfold longE
 have mono:∀(l:List Ent) (r:Int),r≤l.foldl (fun r x=>max r (x.codes.length:Int)) r:=by
  intro l
  induction l with
  | nil=>intro r;exact Int.le_refl _
  | cons y l ih=>intro r;exact Int.le_trans (by dsimp only;omega) (ih _)
 have:∀(l:List Ent) (r:Int),x ∈ l→(x.codes.length:Int)≤l.foldl (fun r x=>max r (x.codes.length:Int)) r:=by
  intro l
  induction l with
  | nil=>intro r h;cases h
  | cons y l ih=>
   intro r h
   rcases List.mem_cons.1 h with rfl | h
   ·exact Int.le_trans (by dsimp only;omega) (mono l _)
   ·exact ih _ h
 exact this es 0 h
theorem lastE_mem {es:List Ent} {zs:List Int} {e:List Elt} (h:lastE es zs=some e):∃x ∈ es,x.codes=zs∧x.elems=e:=by
 unfold lastE at h
 have:∀(l:List Ent) (r:Option (List Elt)),l.foldl (fun r x=>if x.codes=zs then some x.elems else r) r=some e→r=some e∨∃x ∈ l,x.codes=zs∧x.elems=e:=by
  intro l
  induction l with
  | nil=>intro r h;exact .inl h
  | cons y l ih=>
   intro r h
   rcases ih _ h with h1 | ⟨x,hx,h2⟩
   ·dsimp only at h1
    split at h1
    ·next hy=>injection h1 with h1;exact .inr ⟨y,by simp,hy,h1⟩
    ·exact .inl h1
   ·exact .inr ⟨x,by simp [hx],h2⟩
 rcases this es none h with h | h
 ·cases h
 ·exact h
def TabF (w:World) (f:List Int→Option Value) (es:List Ent):Prop:=
 ∀zs,kok zs→match lastE es zs with | none=>f zs=none | some e=>∃E d,f zs=some (.slice E e.length d)∧Elts w E e
theorem TabF.nil (w:World):TabF w (fun _=>none) []:=fun _ _=>rfl
theorem TabF.below {w w':World} {f:List Int→Option Value} {es:List Ent} (h:TabF w f es) (hb:Below w.heap.size w w'):TabF w' f es:=fun zs hz=>by
 have:=h zs hz
 cases hl:lastE es zs with
 | none=>rw [hl] at this;exact this
 | some e=>
  rw [hl] at this
  obtain ⟨E,d,h1,h2⟩:=this
  exact ⟨E,d,h1,h2.below hb⟩
theorem TabF.put {w:World} {f:List Int→Option Value} {es:List Ent} {i:Nat} (h:TabF w f (es.take i)) (hi:i < es.length) {E:Option Addr} {d:Nat} (hE:Elts w E es[i].elems) :
  TabF w (fun y=>if y=es[i].codes then some (.slice E es[i].elems.length d) else f y) (es.take (i+1)):=fun zs hz=>by
 rw [lastE_take hi]
 by_cases e:es[i].codes=zs
 ·rw [if_pos e]
  dsimp only
  rw [if_pos e.symm]
  exact ⟨E,d,rfl,hE⟩
 ·rw [if_neg e]
  dsimp only
  rw [if_neg (fun x=>e x.symm)]
  exact h zs hz
def colD (c:Col):Col:=if colErr c=0 then c else ⟨[],[],64448,32,2⟩
def tabCells (A:Option Addr) (n a:Nat) (B:Option Addr) (m b:Nat) (c:Col) (M:Nat) (long:Int) (cl:Value) (top:Int):List Value:=
 [.slice A n a,.slice B m b,.int .i64 c.base,.int .i64 c.second,.int .i64 c.third,.map (some M),.int .i64 long,cl,.int .i64 top]
structure TabAt (w:World) (T:Nat) (c:Col) (cl:Value) (top:Int):Prop where
 ex:∃A n a B m b M k f,Box w T 167 (tabCells A n a B m b c M (longE c.ents) cl top)∧MapIs Tryz.prog 169 klit kok w M k f∧TabF w f c.ents
theorem TabAt.below {w w':World} {T:Nat} {c:Col} {cl:Value} {top:Int} (h:TabAt w T c cl top) (hb:Below w.heap.size w w'):TabAt w' T c cl top:=by
 obtain ⟨A,n,a,B,m,b,M,k,f,h1,h3,h4⟩:=h.ex
 exact ⟨A,n,a,B,m,b,M,k,f,h1.below hb h1.lt,h3.below hb,h4.below hb⟩
def RetTab (c:Col) (w:World) (e:Ending) (w':World):Prop:=∃T,e=.returned (.pointer (some ⟨T,0,none⟩))∧w.heap.size≤T∧TabAt w' T c (.slice none 0 0) 0∧Below w.heap.size w w'
end Go.Proofs.YtkhmjidaeliccaaGreatDoor
namespace Go.Proofs.YtkhmjidaeliccaaGreatDoor
open Go.RowKit Go.Maps Go.WideMaps
theorem ents_ok {base:Int} {es:List Ent} {p:Option Ent} (h:entsErr base es p=0):∀x ∈ es,entErr1 base x=0:=by
 induction es generalizing p with
 | nil=>intro x hx;cases hx
 | cons y r ih=>
  intro x hx
  unfold entsErr at h
  by_cases h1:entErr1 base y=0
  ·rcases List.mem_cons.1 hx with rfl | hx
   ·exact h1
   ·simp only [h1,ne_eq,not_true_eq_false,if_false] at h
    cases p with
    | none=>exact ih h x hx
    | some z=>
     simp only at h
     split at h
     ·cases h
     ·exact ih h x hx
  ·rw [if_pos h1] at h;exact absurd h h1
theorem ent_codes {base:Int} {x:Ent} (h:entErr1 base x=0):1≤x.codes.length∧x.codes.length≤8∧x.elems.length≤16∧∀z ∈ x.codes,0≤z∧z≤1114111:=by
 unfold entErr1 at h
 split at h
 ·cases h
 ·next h1=>
  split at h
  ·cases h
  ·next h2=>
   refine ⟨by omega,by omega,by omega,fun z hz=>?_⟩
   simp at h2
   exact h2 z hz
theorem col_ents {c:Col} (h:colErr c=0):entsErr c.base c.ents none=0:=by
 unfold colErr at h
 split at h
 ·cases h
 ·split at h
  ·next h1=>exact absurd h h1
  ·exact h
theorem codes_kok {base:Int} {x:Ent} (h:entErr1 base x=0):kok x.codes:=by
 obtain ⟨_,h8,_,hz⟩:=ent_codes h
 exact ⟨h8,fun z hz'=>by have:=hz z hz';exact wf_small (by omega) (by omega)⟩
theorem codes_at {c:Col} (h:colErr c=0) {i:Nat} (hi:i < c.ents.length):kok c.ents[i].codes∧1≤c.ents[i].codes.length∧c.ents[i].codes.length≤8:=by
 have:=ents_ok (col_ents h) _ (List.getElem_mem hi)
 exact ⟨codes_kok this,(ent_codes this).1,(ent_codes this).2.1⟩
theorem made_ok (A:Option Addr) (n a:Nat) (B:Option Addr) (m b:Nat) (c:Col) (w:World) (h:ColAt w A n B m c) (hz:ColSz c) (he:colErr c=0) :
  Calls Tryz.prog 60 #[colV A n a B m b c] w (RetTab c w):=by
 have B0:Below w.heap.size w (w.alloc (.cells #[.slice A n a,.slice B m b,.int .i64 c.base,.int .i64 c.second,.int .i64 c.third] 32)):=(Below.refl _ _).alloc (Nat.le_refl _) _
 have s0:(w.alloc (.cells #[.slice A n a,.slice B m b,.int .i64 c.base,.int .i64 c.second,.int .i64 c.third] 32)).heap.size=w.heap.size+1:=by simp
 have k0:(w.alloc (.cells #[.slice A n a,.slice B m b,.int .i64 c.base,.int .i64 c.second,.int .i64 c.third] 32)).cell? ⟨w.heap.size,0,none⟩=some (.slice A n a):=by simp
 have k1:(w.alloc (.cells #[.slice A n a,.slice B m b,.int .i64 c.base,.int .i64 c.second,.int .i64 c.third] 32)).cell? ⟨w.heap.size,1,none⟩=some (.slice B m b):=by simp
 have k2:(w.alloc (.cells #[.slice A n a,.slice B m b,.int .i64 c.base,.int .i64 c.second,.int .i64 c.third] 32)).cell? ⟨w.heap.size,2,none⟩=some (.int .i64 c.base):=by simp
 have k3:(w.alloc (.cells #[.slice A n a,.slice B m b,.int .i64 c.base,.int .i64 c.second,.int .i64 c.third] 32)).cell? ⟨w.heap.size,3,none⟩=some (.int .i64 c.second):=by simp
 have k4:(w.alloc (.cells #[.slice A n a,.slice B m b,.int .i64 c.base,.int .i64 c.second,.int .i64 c.third] 32)).cell? ⟨w.heap.size,4,none⟩=some (.int .i64 c.third):=by simp
 have W0E:∃W0,w.alloc (.cells #[.slice A n a,.slice B m b,.int .i64 c.base,.int .i64 c.second,.int .i64 c.third] 32)=W0:=⟨_,rfl⟩
 have CK:=Lib.hid (fun W (hb:Below w.heap.size w W)=>ckColl_any A n a B m b c W (h.below hb) hz)
 have HE:=Lib.hid h.ents
 have hn:=h.hn
 have hnz:=hz.n
 have HCD:=Lib.hid (fun i hi=>codes_at he (i:=i) hi)
 have HER:=Lib.hid he
 have LB:=Lib.hid (fun i=>longE_bd (es:=c.ents.take i) (k:=8) (fun x hx=>(ent_codes (ents_ok (col_ents he) x (List.mem_of_mem_take hx))).2.1))
 have hmm:=@run_makeMap Tryz.prog
 clear h hz he
 unfold colV at *
 subst hn
 go_enter Tryz.func60,Tryz.ntmps60
 go_wp2_with fail
 obtain ⟨W0,hW0⟩:=W0E
 rw [hW0] at B0 s0 k0 k1 k2 k3 k4 ⊢
 clear hW0
 have hx0:w.heap.size < W0.heap.size:=by omega
 with_reducible refine (CK.out W0 B0).mono ?_
 rw [HER.out]
 rintro e W1 ⟨rfl,hb1⟩
 clear CK
 have hb2:=B0.trans (hb1.mono B0.size)
 have f0:=(hb1.cell (p:=⟨w.heap.size,0,none⟩) hx0).trans k0
 have f1:=(hb1.cell (p:=⟨w.heap.size,1,none⟩) hx0).trans k1
 have f2:=(hb1.cell (p:=⟨w.heap.size,2,none⟩) hx0).trans k2
 have f3:=(hb1.cell (p:=⟨w.heap.size,3,none⟩) hx0).trans k3
 have f4:=(hb1.cell (p:=⟨w.heap.size,4,none⟩) hx0).trans k4
 have hx1:w.heap.size < W1.heap.size:=by have:=hb1.size;omega
 have hx2:¬w.heap.size=W1.heap.size:=by omega
 have hx3:¬w.heap.size=W1.heap.size+1:=by omega
 have KC:=Lib.hid (And.intro f0 (And.intro f1 (And.intro f2 (And.intro f3 f4))))
 clear k0 k1 k2 k3 k4
 have B2:Below W1.heap.size W1 ((W1.alloc (.map #[] 0)).alloc (.cells #[.slice A c.ents.length a,.slice B m b,.int .i64 c.base,.int .i64 c.second,.int .i64 c.third,.map (some W1.heap.size),.int .i64 0,.slice none 0 0,.int .i64 0] 167)):=((Below.refl _ _).alloc (Nat.le_refl _) _).alloc (by simp) _
 have X2:Box ((W1.alloc (.map #[] 0)).alloc (.cells #[.slice A c.ents.length a,.slice B m b,.int .i64 c.base,.int .i64 c.second,.int .i64 c.third,.map (some W1.heap.size),.int .i64 0,.slice none 0 0,.int .i64 0] 167)) (W1.heap.size+1) 167 (tabCells A c.ents.length a B m b c W1.heap.size (0) (.slice none 0 0) 0):=Box.new _ _ _ (by simp)
 have M2:MapIs Tryz.prog 169 klit kok ((W1.alloc (.map #[] 0)).alloc (.cells #[.slice A c.ents.length a,.slice B m b,.int .i64 c.base,.int .i64 c.second,.int .i64 c.third,.map (some W1.heap.size),.int .i64 0,.slice none 0 0,.int .i64 0] 167)) W1.heap.size 0 (fun _=>none):=(MapIs.made Tryz.prog _ klit kok W1).alloc _
 have s2:((W1.alloc (.map #[] 0)).alloc (.cells #[.slice A c.ents.length a,.slice B m b,.int .i64 c.base,.int .i64 c.second,.int .i64 c.third,.map (some W1.heap.size),.int .i64 0,.slice none 0 0,.int .i64 0] 167)).heap.size=W1.heap.size+2:=by simp
 have W2E:∃W2,(W1.alloc (.map #[] 0)).alloc (.cells #[.slice A c.ents.length a,.slice B m b,.int .i64 c.base,.int .i64 c.second,.int .i64 c.third,.map (some W1.heap.size),.int .i64 0,.slice none 0 0,.int .i64 0] 167)=W2:=⟨_,rfl⟩
 go_wp2_with fail
 obtain ⟨W2,hW2⟩:=W2E
 rw [hW2] at B2 X2 M2 s2 ⊢
 clear hW2 f0 f1 f2 f3 f4
 have HX2:=Lib.hid X2
 have HM2:=Lib.hid M2
 clear X2 M2 hmm
 have L0:=Lib.hid (show longE (c.ents.take 0)=0 from rfl)
 go_loopw [5,17] (fun _ u wr=>∃(i:Nat) (f:List Int→Option Value),i≤c.ents.length∧u=.int .i64 i∧Box wr (W1.heap.size+1) 167 (tabCells A c.ents.length a B m b c W1.heap.size (longE (c.ents.take i)) (.slice none 0 0) 0)∧MapIs Tryz.prog 169 klit kok wr W1.heap.size i f∧TabF W1 f (c.ents.take i)∧Below W1.heap.size W1 wr) (fun _ u _=>c.ents.length - (intOf u).toNat)
 case atStart=>exact ⟨0,fun _=>none,Nat.zero_le _,rfl,HX2.out,HM2.out,by rw [List.take_zero];exact TabF.nil _,B2⟩
 case round=>
  obtain ⟨i,f,hi,rfl,hX,hM,hT,hbr⟩:=hrel
  have HX:=Lib.hid hX;have HM:=Lib.hid hM;have HT:=Lib.hid hT
  have hXl:=hX.lt
  clear hX hM hT HX2 HM2 L0
  by_cases hlt:i < c.ents.length
  ·obtain ⟨b1,o1,rfl,hbl,hcell⟩:=(HE.out.below hb2).at hlt
   obtain ⟨C,cc,E,dd,c1',c2',hC,hE⟩:=hcell i hlt
   obtain ⟨hkok,hl1,hl8⟩:=HCD.out i hlt
   have c1:=(hbr.cell (p:=⟨b1,o1+i*2,none⟩) hbl).trans c1'
   have c2:=(hbr.cell (p:=⟨b1,o1+i*2+1,none⟩) hbl).trans c2'
   have HKK:=Lib.hid hkok
   have HINT:=Lib.hid (fun W (hb:Below W1.heap.size W1 W)=>hC.below hb)
   have LS:=Lib.hid (longE_take hlt)
   have lb:=LB.out i
   have lb1:=LB.out (i+1)
   have TP:=Lib.hid (HT.out.put hlt (E:=E) (d:=dd) hE)
   have hbl2:b1 < wr.heap.size:=Nat.lt_of_lt_of_le hbl hbr.size
   have hn1:¬b1=wr.heap.size:=by omega
   clear hcell hkok hC hE c1' c2' HT
   generalize c.ents[i].codes=cds at *
   generalize c.ents[i].elems=els at *
   have Ba:Below wr.heap.size wr (wr.alloc (.cells #[.slice C cds.length cc,.slice E els.length dd] 75)):=(Below.refl _ _).alloc (Nat.le_refl _) _
   have Xa:Box (wr.alloc (.cells #[.slice C cds.length cc,.slice E els.length dd] 75)) wr.heap.size 75 [.slice C cds.length cc,.slice E els.length dd]:=Box.new _ _ _ rfl
   have sa:(wr.alloc (.cells #[.slice C cds.length cc,.slice E els.length dd] 75)).heap.size=wr.heap.size+1:=by simp
   have WaE:∃Wa,wr.alloc (.cells #[.slice C cds.length cc,.slice E els.length dd] 75)=Wa:=⟨_,rfl⟩
   go_wp2_with fail
   obtain ⟨Wa,hWa⟩:=WaE
   rw [hWa] at Ba Xa sa ⊢
   clear hWa c1 c2
   have XT:=HX.out.below Ba hXl
   have t5:=XT.cell (i:=5) (v:=.map (some W1.heap.size)) rfl
   have e0:=Xa.cell (i:=0) rfl
   have e1:=Xa.cell (i:=1) rfl
   have HXT:=Lib.hid XT;have HXA:=Lib.hid Xa
   have hba:=hbr.trans (Ba.mono hbr.size)
   have KY:=Lib.hid ((keyOf_any C cds.length cc cds Wa.drew (HINT.out _ hba.drew) rfl hl1 hl8).mono (R':=fun e w'=>e=.returned (keyV cds)∧(w'.cell? ⟨W1.heap.size+1,5,none⟩=some (.map (some W1.heap.size))∧w'.cell? ⟨wr.heap.size,0,none⟩=some (.slice C cds.length cc)∧w'.cell? ⟨wr.heap.size,1,none⟩=some (.slice E els.length dd))∧Below Wa.heap.size Wa w') (fun e w' ⟨he,hb⟩=>by
    have hb':Below Wa.heap.size Wa w':=((Below.refl _ Wa).drew).trans hb
    exact ⟨he,⟨(hb'.cell (p:=⟨W1.heap.size+1,5,none⟩) (show W1.heap.size+1 < _ by omega)).trans t5,(hb'.cell (p:=⟨wr.heap.size,0,none⟩) (show wr.heap.size < _ by omega)).trans e0,(hb'.cell (p:=⟨wr.heap.size,1,none⟩) (show wr.heap.size < _ by omega)).trans e1⟩,hb'⟩))
   clear XT Xa
   refine wp_region_held_drew (S:=fun W'=>W'.cell? ⟨W1.heap.size+1,5,none⟩=some (.map (some W1.heap.size))∧W'.cell? ⟨wr.heap.size,0,none⟩=some (.slice C cds.length cc)∧W'.cell? ⟨wr.heap.size,1,none⟩=some (.slice E els.length dd)) (by kernel_rfl) ⟨t5,e0,e1⟩ (fun hHeld=>?_)
   refine tK 0 21 ?_
   refine tK 1 22 ?_
   refine tK 2 23 ?_
   refine tK 3 24 ?_
   refine tK 4 25 ?_
   refine tK 5 26 ?_
   refine tK 7 28 ?_
   refine tK 8 29 ?_
   refine anyH_callR (R:=fun W'=>Below Wa.heap.size Wa W') (i:=6) (some 27) rfl rfl (by kernel_rfl) (by rfl) (by go_simp) KY.out (fun w6 hS6 hR6=>?_)
   clear hHeld KY
   have hHeld:=hS6
   clear hS6
   try simp only [Act.put,List.setIfInBounds_toArray,List.set_cons_zero,List.set_cons_succ]
   have hwb:=Ba.trans (hR6.mono Ba.size)
   refine anyH_mput (val:=.slice E els.length dd) (i:=9) none rfl rfl (by kernel_rfl) (by rfl) _ _ _ _ rfl (HM.out.below hwb) law_key Tryz.underlying165 (by unfold maxLen;omega) rfl rfl rfl HKK.out (key_some HKK.out) (fun y hy e=>klit_inj hy HKK.out e) (fun w' hg=>?_) (fun w7 hM7 hg7=>?_)
   ·have h6:=hR6.size
    exact ⟨(World.cell?_of_block (hg.block (W1.heap.size+1) (by omega) (by simp))).trans hHeld.1,(World.cell?_of_block (hg.block wr.heap.size (by omega) (by simp;omega))).trans hHeld.2.1,(World.cell?_of_block (hg.block wr.heap.size (by omega) (by simp;omega))).trans hHeld.2.2⟩
   refine wpAnyH_done (by kernel_rfl) ?_ _
   have h6:=hR6.size
   have hb7:=below_grown (hba.trans (hR6.mono (by omega:W1.heap.size≤Wa.heap.size))) hg7 (Nat.le_refl _) (by omega)
   have X7:=(HXT.out.below hR6 (by omega)).grown hg7 (by simp)
   have Y7:=(HXA.out.below hR6 (by omega)).grown hg7 (by simp;omega)
   have HX7:=Lib.hid X7
   have HM7:=Lib.hid hM7
   have t6:=X7.cell (i:=6) (v:=.int .i64 (longE (c.ents.take i))) rfl
   have z6:=X7.free 6
   have u0:=Y7.cell (i:=0) rfl
   have g7:=hg7.size
   clear X7 Y7 hM7 hg7 HM HX HXT HXA hHeld t5 e0 e1
   generalize longE (c.ents.take i)=l0 at *
   go_wp2_with fail
   go_region
   all_goals
    go_wp2_with fail
    go_roundw
    case rel=>
     have e:(if l0 < (cds.length:Int) then (cds.length:Int) else l0)=longE (c.ents.take (i+1)):=by rw [LS.out];split <;> omega
     refine ⟨i+1,_,by omega,by go_num,?_,(HM7.out.kept (grown_set _ _ _) (by simp)).below ((Below.refl _ _).drew),TP.out,(hb7.setCell (p:=⟨W1.heap.size+1,6,none⟩) (by show W1.heap.size≤W1.heap.size+1;omega) _).drew⟩
     rw [e]
     exact HX7.out.set 6 _
    case measure=>simp [intOf];omega
  ·obtain rfl:i=c.ents.length:=by omega
   have hXX:=HX.out
   have hTT:=HT.out
   rw [List.take_length] at hXX hTT
   have HXX:=Lib.hid hXX
   have HTT:=Lib.hid hTT
   clear hXX hTT HT HX
   go_wp2_with fail
   go_ret
   exact ⟨W1.heap.size+1,rfl,by omega,⟨A,c.ents.length,a,B,m,b,W1.heap.size,_,_,HXX.out,HM.out,HTT.out.below hbr⟩,hb2.trans (hbr.mono hb2.size)⟩
end Go.Proofs.YtkhmjidaeliccaaGreatDoor
