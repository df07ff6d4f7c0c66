/- Texts that are merged into one file: LawBk, OpenR, Open, OpenMap, OpenNorm, OpenCol, OpenTl, OpenTl2. -/
import Derived.Test.YtkhmjidaeliccaaGreatDoorB01
import Derived.Test.YtkhmjidaeliccaaGreatDoorB02
import Derived.Test.YtkhmjidaeliccaaGreatDoorB07
import Derived.Test.YtkhmjidaeliccaaGreatDoorB09
import Derived.Test.YtkhmjidaeliccaaGreatDoorB12
import Derived.Test.YtkhmjidaeliccaaGreatDoorB14
import Derived.Test.YtkhmjidaeliccaaGreatDoorB24
import Derived.Test.YtkhmjidaeliccaaGreatDoorB25
import Derived.Test.YtkhmjidaeliccaaGreatDoorB26
import Derived.Deep.Slices
import Derived.ProofKit
import Derived.OpenShut
import Derived.ShutString
import Derived.ChangeOld
import Derived.Test.YtkhmjidaeliccaaGreatDoorRows
import Derived.Deep.DeepHandedRow
import Derived.Lib.LaidTab
import Derived.LaidSub
set_option maxRecDepth 100000
set_option maxHeartbeats 51200000
namespace Go.Proofs.YtkhmjidaeliccaaGreatDoor
open Go.RowKit Go.Maps Go.WideMaps Tl Pa
theorem stpI_b8 {t:Tlr} (h:okT t):By8 (stpI t):=by
 obtain ⟨h1,h2,h3⟩:=h
 have b1:=codI_b8 (rng_all h1).2
 have b2:=codI_b8 (rng_all h2).2
 have lit:∀r:List Int,(r.all fun z=>decide (0≤z)&&decide (z < 256))=true→By8 r:=fun r h z hz=>by
  rw [List.all_eq_true] at h
  simpa using h z hz
 unfold stpI
 refine (lit _ (by decide)).app (By8.app ?_ (By8.app (r:=40::codI t.anc) ?_ ((lit _ (by decide)).app (By8.app ?_ ((lit _ (by decide)).app (b2.app (lit _ (by decide)))))))) 
 ·unfold befI;split <;> exact lit _ (by decide)
 ·exact By8.app (r:=[40]) (lit _ (by decide)) b1
 ·unfold sgnI;split;exact lit _ (by decide);split;exact lit _ (by decide);split <;> exact lit _ (by decide)
theorem txtI_b8 {l:List Tlr} (h:∀t ∈ l,okT t):By8 (txtI l):=by
 intro z hz
 obtain ⟨t,ht,hz⟩:=List.mem_flatMap.1 hz
 exact stpI_b8 (h t ht) z hz
def bkV (l:List Tlr):List Tlr × Int × Int:=parseF (strOfNums (if txtErr l=0 then txtI l else []))
theorem bkV_ok {l:List Tlr} (h:txtErr l=0) (hs:(txtI l).length≤65536):bkV l=(l,0,0):=by
 have hok:=txtErr_0 h
 unfold bkV
 rw [if_pos h,parseF_small (by rw [strOfNums_size];omega),parse_txt (At_str (txtI_b8 hok)) hok]
 rfl
theorem wS_bd (l:List Tlr):l.length≤wS l∧∀t ∈ l,t.anc.length≤wS l∧t.cds.length≤wS l:=by
 induction l with
 | nil=>exact ⟨Nat.zero_le _,fun t ht=>by cases ht⟩
 | cons a l ih=>
  have e:wS (a::l)=a.anc.length+a.cds.length+1+wS l:=by unfold wS;rw [List.map_cons,List.sum_cons]
  refine ⟨by rw [e,List.length_cons];omega,fun t ht=>?_⟩
  rcases List.mem_cons.1 ht with rfl | ht
  ·rw [e];omega
  ·have:=ih.2 t ht;rw [e];omega
theorem odd_next {l:List Tlr} {i:Nat} (hi:i < l.length):(l.take (i+1)).any oddT=((l.take i).any oddT || oddT l[i]):=by
 rw [List.take_add_one,List.getElem?_eq_getElem hi,List.any_append]
 simp
theorem TailorBack_any (K:Option Addr) (k:Nat) (l:List Tlr) (s:ByteArray) (w:World) (hK:Tlrs w K l) (hll:l.length≤maxLen) (hls:∀t ∈ l,t.anc.length≤maxLen∧t.cds.length≤maxLen) (hL:Laid w) (hG:LaidG w):Calls Tryz.prog 10 #[.slice K l.length k,.string s] w (RetTrue w):=by
 have hml:maxLen≤9223372036854775807:=by unfold maxLen;omega
 have AL:=Lib.hid (fun W (hb:Below w.heap.size w W)=>alive_any W (hL.below hb))
 have FW:=Lib.hid (few_any K k l w hK (by omega) (fun t ht=>by have:=hls t ht;omega))
 have PA:=Lib.hid (fun (s:ByteArray) (h:s.size≤9223372036854775806) W=>parse_any s W h)
 have HK:=Lib.hid (fun W (hb:Below w.heap.size w W)=>hK.below hb)
 have TX:=Lib.hid (fun (A:Option Addr) a (b:List Tlr) W (hb:Below w.heap.size w W) (h:Tlrs W A b) h1 h2=>text_any A a b W h h1 h2 (hG.below hb))
 have SM:=Lib.hid (fun (A B:Option Addr) a b (l:List Tlr) W hA hB h1 h2=>same_any A B a b l W hA hB h1 h2)
 unfold RetParse at PA
 unfold RetTxt at TX
 unfold RetTrue at AL ⊢
 have EQ:=eql_fault
 have NE:=neq_fault
 have HEQ:=Lib.hid EQ
 have HNE:=Lib.hid NE
 clear hK hL hG hls EQ NE hml
 by_cases hc:fewT l=true∧¬400 < s.size
 ·obtain ⟨hf,hb⟩:=hc
  rw [hf] at FW
  have d1:decide ((400:Int) < (s.size:Int))=false:=by simp;omega
  obtain ⟨h6,h12⟩:=fewT_all hf
  have hts:∀t ∈ l,t.anc.length≤65536∧t.cds.length≤65536:=fun t ht=>by have:=h12 t ht;omega
  have hlen:(txtI l).length≤65536:=by
   have h:=txtI_len l
   have hw:wS l≤6*25:=by
    have:∀m:List Tlr,(∀t ∈ m,t.anc.length≤12∧t.cds.length≤12)→wS m≤m.length*25:=fun m=>by
     induction m with
     | nil=>intro _;exact Nat.zero_le _
     | cons a m ih=>
      intro hm
      have e:wS (a::m)=a.anc.length+a.cds.length+1+wS m:=by unfold wS;rw [List.map_cons,List.sum_cons]
      have h1:=hm a (by simp)
      have h2:=ih (fun t ht=>hm t (List.mem_cons_of_mem _ ht))
      rw [e,List.length_cons];omega
    have:=this l h12
    omega
   omega
  have HBK:=Lib.hid (fun h=>bkV_ok (l:=l) h hlen)
  have HST:=Lib.hid (show (strOfNums (if txtErr l=0 then txtI l else [])).size≤65536 from by rw [strOfNums_size];split;exact hlen;exact Nat.zero_le _)
  have HT0:=Lib.hid (show txtErr l≠0→strOfNums (if txtErr l=0 then txtI l else [])=⟨#[]⟩ from fun h=>by rw [if_neg h];rfl)
  have HDEF:=Lib.hid (show parseF (strOfNums (if txtErr l=0 then txtI l else []))=bkV l from rfl)
  have HTS:=Lib.hid hts
  have TX1:=Lib.hid (fun W hb=>TX.out K k l W hb (HK.out W hb) (by omega) hts)
  obtain ⟨te,hte⟩:∃e,txtErr l=e:=⟨_,rfl⟩
  have hte2:=HBK.out
  generalize strOfNums (if txtErr l=0 then txtI l else [])=tx at *
  rw [hte] at TX1 HT0 hte2
  have HBV:=Lib.hid hte2
  obtain ⟨bv,hbv⟩:∃b,bkV l=b:=⟨_,rfl⟩
  rw [hbv] at HBV HDEF
  clear hte hte2 hbv HBK hts hlen h12
  obtain ⟨la,fe,fa⟩:=bv
  go_enter Tryz.func10,Tryz.ntmps10
  go_wp2_with fail
  with_reducible refine FW.out.mono ?_
  rintro e W1 ⟨rfl,q1,rfl⟩
  have HB1:=Lib.hid (below_of_drewN w q1)
  have TX2:=Lib.hid (TX1.out (w.drewN q1) HB1.out)
  clear FW
  go_wp2_with fail
  with_reducible refine TX2.out.mono ?_
  rintro e W2 ⟨rfl,hb2⟩
  have HB2:=Lib.hid (HB1.out.trans (hb2.mono HB1.out.size))
  have PA1:=Lib.hid (PA.out tx (by have:=HST.out;omega) W2)
  rw [HDEF.out] at PA1
  clear hb2 TX2 TX1 HB1 HDEF
  dsimp only at PA1
  go_wp2_with fail
  with_reducible refine PA1.out.mono ?_
  rintro e W3 ⟨Ka,ka,rfl,hta,hb3⟩
  have HB3:=Lib.hid (HB2.out.trans (hb3.mono HB2.out.size))
  have HTA:=Lib.hid hta
  clear hb3 hta PA1 HB2
  have BA:=(HB3.out).alloc (HB3.out).size (.cells #[.int .i64 fe,.int .i64 fa] 47)
  have XF:Box (W3.alloc (.cells #[.int .i64 fe,.int .i64 fa] 47)) W3.heap.size 47 [.int .i64 fe,.int .i64 fa]:=Box.new W3 47 [.int .i64 fe,.int .i64 fa] rfl
  have BB:=(Below.refl W3.heap.size W3).alloc (Nat.le_refl _) (.cells #[.int .i64 fe,.int .i64 fa] 47)
  have WE:=Lib.hid (show ∃V,W3.alloc (.cells #[.int .i64 fe,.int .i64 fa] 47)=V from ⟨_,rfl⟩)
  obtain ⟨n8,hn8⟩:∃n,W3.heap.size=n:=⟨_,rfl⟩
  go_upto_region 5 with (fail)
  obtain ⟨W4,hV⟩:=WE.out
  rw [hV] at XF BA BB ⊢
  clear hV WE
  have HBn8:=Lib.hid BA
  have HBBn8:=Lib.hid BB
  rw [hn8] at XF
  have HXn8:=Lib.hid XF
  clear XF BA BB hn8
  go_cut [56] (fun s56 wx=>s56=.bool false∧Below w.heap.size w wx)
  case first=>
   as_aux_lemma=>
   have c0:=HXn8.out.cell (i:=0) rfl
   have c1:=HXn8.out.cell (i:=1) rfl
   by_cases hz:te=0
   ·have hq:=HBV.out hz
    obtain ⟨h1,h2⟩:=Prod.mk.inj hq
    obtain ⟨h3,h4⟩:=Prod.mk.inj h2
    subst h1 h3 h4 hz
    have e1:=fun W=>(HNE.out 0 0 0 0 W).trans (by rw [decide_eq_true rfl];try rfl)
    have SM1:=Lib.hid (SM.out Ka K ka k la W4 (HTA.out.below HBBn8.out) (HK.out W4 HBn8.out) (by omega) (fun t ht=>by have:=HTS.out t ht;omega))
    clear hq h2 HBV
    go_wp2_with fail
    with_reducible refine SM1.out.mono ?_
    rintro e W5 ⟨rfl,q5,rfl⟩
    have HB5:=Lib.hid (HBn8.out.trans ((below_of_drewN W4 q5).mono HBn8.out.size))
    go_wp2_with fail
    go_meet
    exact ⟨rfl,HB5.out⟩
   ·have e0:(te==0)=false:=by simp [hz]
    have e1:(te != 0)=true:=by simp [hz]
    have et:=HT0.out hz
    have HBx:=Lib.hid HBn8.out
    subst et
    clear hz HBV HT0
    go_wp2_with fail
    go_meet
    exact ⟨rfl,HBx.out⟩
  case rest=>
  obtain ⟨rfl,hcb⟩:=hcut
  have HBc:=Lib.hid hcb
  clear hcb HXn8 HBn8 HBBn8 HTA HBV HT0 HST HTS
  have PS:=Lib.hid (PA.out s (by omega) wc)
  rw [parseF_small (by omega)] at PS
  cases hp:parse s with
  | error f=>
   rw [hp] at PS
   unfold retP at PS
   dsimp only at PS
   clear hp
   go_wp2_with fail
   with_reducible refine PS.out.mono ?_
   rintro e W5 ⟨Kb,kb,rfl,-,hb5⟩
   have HB5:=Lib.hid (HBc.out.trans (hb5.mono HBc.out.size))
   clear hb5 PS
   have BA:=(HB5.out).alloc (HB5.out).size (.cells #[.int .i64 3,.int .i64 f] 47)
   have XF:Box (W5.alloc (.cells #[.int .i64 3,.int .i64 f] 47)) W5.heap.size 47 [.int .i64 3,.int .i64 f]:=Box.new W5 47 [.int .i64 3,.int .i64 f] rfl
   have BB:=(Below.refl W5.heap.size W5).alloc (Nat.le_refl _) (.cells #[.int .i64 3,.int .i64 f] 47)
   have WE:=Lib.hid (show ∃V,W5.alloc (.cells #[.int .i64 3,.int .i64 f] 47)=V from ⟨_,rfl⟩)
   obtain ⟨n10,hn10⟩:∃n,W5.heap.size=n:=⟨_,rfl⟩
   go_upto_region 8 with (fail)
   obtain ⟨W6,hV⟩:=WE.out
   rw [hV] at XF BA BB ⊢
   clear hV WE
   have HBn10:=Lib.hid BA
   have HBBn10:=Lib.hid BB
   rw [hn10] at XF
   have HXn10:=Lib.hid XF
   clear XF BA BB hn10
   have c0:=HXn10.out.cell (i:=0) rfl
   have c1:=HXn10.out.cell (i:=1) rfl
   go_wp2_with fail
   with_reducible refine (AL.out _ HBn10.out).mono ?_
   rintro e W7 ⟨rfl,hb7⟩
   have HB7:=Lib.hid (HBn10.out.trans (hb7.mono HBn10.out.size))
   clear hb7 c0 c1
   go_wp2_with fail
   go_ret
   exact ⟨rfl,HB7.out⟩
  | ok q=>
   obtain ⟨lb,j⟩:=q
   obtain ⟨hrd,hws⟩:=parse_bd hp
   rw [hp] at PS
   unfold retP at PS
   dsimp only at PS
   obtain ⟨hwl,hwt⟩:=wS_bd lb
   have htb:∀t ∈ lb,t.anc.length≤65536∧t.cds.length≤65536:=fun t ht=>by have:=hwt t ht;omega
   have hlen:(txtI lb).length≤65536:=by have:=txtI_len lb;omega
   have HER:=Lib.hid (txtErr_rd hrd)
   have HBK:=Lib.hid (fun h=>bkV_ok (l:=lb) h hlen)
   have HST:=Lib.hid (show (strOfNums (if txtErr lb=0 then txtI lb else [])).size≤65536 from by rw [strOfNums_size];split;exact hlen;exact Nat.zero_le _)
   have HDEF:=Lib.hid (show parseF (strOfNums (if txtErr lb=0 then txtI lb else []))=bkV lb from rfl)
   have hlbl:lb.length≤65536:=by omega
   have TX1:=Lib.hid (fun A a W hb h=>TX.out A a lb W hb h hlbl htb)
   have HTB:=Lib.hid htb
   have HON:=Lib.hid (fun i hi=>odd_next (l:=lb) (i:=i) hi)
   generalize strOfNums (if txtErr lb=0 then txtI lb else [])=tx2 at *
   generalize txtErr lb=te2 at *
   obtain ⟨bv,hbv⟩:∃b,bkV lb=b:=⟨_,rfl⟩
   rw [hbv] at HBK HDEF
   clear hp hrd hws hwl hwt htb hlen hbv TX
   obtain ⟨lc,ge,ga⟩:=bv
   go_wp2_with fail
   with_reducible refine PS.out.mono ?_
   rintro e W5 ⟨Kb,kb,rfl,htb,hb5⟩
   have HB5:=Lib.hid (HBc.out.trans (hb5.mono HBc.out.size))
   have HTb:=Lib.hid htb
   clear hb5 htb PS
   have BA:=(HB5.out).alloc (HB5.out).size (.cells #[.int .i64 0,.int .i64 0] 47)
   have XF:Box (W5.alloc (.cells #[.int .i64 0,.int .i64 0] 47)) W5.heap.size 47 [.int .i64 0,.int .i64 0]:=Box.new W5 47 [.int .i64 0,.int .i64 0] rfl
   have BB:=(Below.refl W5.heap.size W5).alloc (Nat.le_refl _) (.cells #[.int .i64 0,.int .i64 0] 47)
   have WE:=Lib.hid (show ∃V,W5.alloc (.cells #[.int .i64 0,.int .i64 0] 47)=V from ⟨_,rfl⟩)
   obtain ⟨n10,hn10⟩:∃n,W5.heap.size=n:=⟨_,rfl⟩
   go_upto_region 8 with (fail)
   obtain ⟨W6,hV⟩:=WE.out
   rw [hV] at XF BA BB ⊢
   clear hV WE
   have HBn10:=Lib.hid BA
   have HBBn10:=Lib.hid BB
   rw [hn10] at XF
   have HXn10:=Lib.hid XF
   clear XF BA BB hn10
   have HTb6:=Lib.hid (HTb.out.below HBBn10.out)
   have c0:=HXn10.out.cell (i:=0) rfl
   have c1:=HXn10.out.cell (i:=1) rfl
   clear HTb HBBn10
   go_wp2_with fail
   go_loopw [11,12] (fun u v wr=>∃i:Nat,i≤lb.length∧u=.bool ((lb.take i).any oddT)∧v=.int .i64 i∧wr=W6) (fun _ v _=>lb.length - (intOf v).toNat)
   case atStart=>exact ⟨0,Nat.zero_le _,rfl,rfl,rfl⟩
   case round=>
    obtain ⟨i,hi,rfl,rfl,rfl⟩:=hrel
    by_cases hlt:i < lb.length
    ·obtain ⟨kb2,ko,rfl,hkb,hat⟩:=HTb6.out.at hlt
     obtain ⟨P,pk,Q,qk,t0,t1,t2,t3,-,-⟩:=hat i hlt
     have HOI:=Lib.hid (HON.out i hlt)
     have HOT:=Lib.hid (show oddT lb[i]=(decide (lb[i].lvl=0)&&lb[i].bef) from rfl)
     have hil:(i:Int) < (lb.length:Int):=by omega
     clear hat t0 t1
     generalize oddT lb[i]=ob at *
     generalize lb[i]=t at *
     cases hob:(lb.take i).any oddT with
     | true=>
      rw [hob] at HOI
      clear hob
      go_wp2_with fail
      go_roundw
      case rel=>exact ⟨i+1,by omega,by rw [HOI.out];rfl,by go_num,by trivial⟩
      case measure=>(try simp [intOf]) <;> (try omega)
     | false=>
      rw [hob] at HOI
      clear hob
      by_cases hl:t.lvl=0
      ·have hl1:(t.lvl==0)=true:=by simp [hl]
       have HO2:=Lib.hid (show ob=t.bef from by rw [HOT.out,decide_eq_true hl,Bool.true_and])
       clear hl
       go_wp2_with fail
       go_roundw
       case rel=>exact ⟨i+1,by omega,by rw [HOI.out,HO2.out];rfl,by go_num,by trivial⟩
       case measure=>(try simp [intOf]) <;> (try omega)
      ·have hl1:(t.lvl==0)=false:=by simp [hl]
       have HO2:=Lib.hid (show ob=false from by rw [HOT.out,decide_eq_false hl,Bool.false_and])
       clear hl
       go_wp2_with fail
       go_roundw
       case rel=>exact ⟨i+1,by omega,by rw [HOI.out,HO2.out];rfl,by go_num,by trivial⟩
       case measure=>(try simp [intOf]) <;> (try omega)
    ·obtain rfl:i=lb.length:=by omega
     rw [List.take_length]
     have HTb7:=Lib.hid HTb6.out
     have TX2:=Lib.hid (TX1.out Kb kb wr HBn10.out HTb6.out)
     obtain ⟨od,hod⟩:∃b,lb.any oddT=b:=⟨_,rfl⟩
     rw [hod] at HER ⊢
     clear hod TX1
     go_wp2_with fail
     with_reducible refine TX2.out.mono ?_
     rintro e W7 ⟨rfl,hb7⟩
     have HB7:=Lib.hid (HBn10.out.trans (hb7.mono HBn10.out.size))
     have HTb8:=Lib.hid (HTb7.out.below hb7)
     have PA1:=Lib.hid (PA.out tx2 (by have:=HST.out;omega) W7)
     rw [HDEF.out] at PA1
     clear hb7 TX2 HDEF HTb7
     dsimp only at PA1
     go_wp2_with fail
     with_reducible refine PA1.out.mono ?_
     rintro e W8 ⟨Kc,kc,rfl,htc,hb8⟩
     have HB8:=Lib.hid (HB7.out.trans (hb8.mono HB7.out.size))
     have HTc:=Lib.hid htc
     have HTb9:=Lib.hid (HTb8.out.below hb8)
     clear hb8 htc PA1 HTb8 c0 c1
     have BA:=(HB8.out).alloc (HB8.out).size (.cells #[.int .i64 ge,.int .i64 ga] 47)
     have XF:Box (W8.alloc (.cells #[.int .i64 ge,.int .i64 ga] 47)) W8.heap.size 47 [.int .i64 ge,.int .i64 ga]:=Box.new W8 47 [.int .i64 ge,.int .i64 ga] rfl
     have BB:=(Below.refl W8.heap.size W8).alloc (Nat.le_refl _) (.cells #[.int .i64 ge,.int .i64 ga] 47)
     have WE:=Lib.hid (show ∃V,W8.alloc (.cells #[.int .i64 ge,.int .i64 ga] 47)=V from ⟨_,rfl⟩)
     obtain ⟨n16,hn16⟩:∃n,W8.heap.size=n:=⟨_,rfl⟩
     go_upto_region 17 with (fail)
     obtain ⟨W9,hV⟩:=WE.out
     rw [hV] at XF BA BB ⊢
     clear hV WE
     have HBn16:=Lib.hid BA
     have HBBn16:=Lib.hid BB
     rw [hn16] at XF
     have HXn16:=Lib.hid XF
     clear XF BA BB hn16
     have c0:=HXn16.out.cell (i:=0) rfl
     have c1:=HXn16.out.cell (i:=1) rfl
     cases od with
     | true=>
      have hte:=HER.out
      rw [if_pos rfl] at hte
      subst hte
      have e1:((8:Int)==8)=true:=rfl
      clear HER HBK
      go_wp2_with fail
      with_reducible refine (AL.out _ HBn16.out).mono ?_
      rintro e W10 ⟨rfl,hb10⟩
      have HBa:=Lib.hid (HBn16.out.trans (hb10.mono HBn16.out.size))
      clear hb10 c0 c1
      go_wp2_with fail
      go_ret
      exact ⟨rfl,HBa.out⟩
     | false=>
      have hte:=HER.out
      rw [if_neg (by decide)] at hte
      subst hte
      have hq:=HBK.out rfl
      obtain ⟨h1,h2⟩:=Prod.mk.inj hq
      obtain ⟨h3,h4⟩:=Prod.mk.inj h2
      subst h1 h3 h4
      have e1:=fun W=>(HEQ.out 0 0 0 0 W).trans (by rw [decide_eq_true rfl])
      have SM1:=Lib.hid (SM.out Kb Kc kb kc lc W9 (HTb9.out.below HBBn16.out) (HTc.out.below HBBn16.out) (by omega) (fun t ht=>by have:=HTB.out t ht;omega))
      clear hq h2 HBK HER
      go_wp2_with fail
      with_reducible refine SM1.out.mono ?_
      rintro e W10 ⟨rfl,q10,rfl⟩
      have HB10:=Lib.hid (HBn16.out.trans ((below_of_drewN W9 q10).mono HBn16.out.size))
      clear c0 c1
      go_wp2_with fail
      with_reducible refine (AL.out _ HB10.out).mono ?_
      rintro e W11 ⟨rfl,hb11⟩
      have HBa:=Lib.hid (HB10.out.trans (hb11.mono HB10.out.size))
      clear hb11
      go_wp2_with fail
      go_ret
      exact ⟨rfl,HBa.out⟩
 ·have d0:∀b:Bool,b=fewT l→b=true→decide ((400:Int) < (s.size:Int))=true:=fun b e h=>by
   have:400 < s.size:=Classical.byContradiction fun g=>hc ⟨e ▸ h,g⟩
   simp;omega
  obtain ⟨fb,hfb⟩:∃b,fewT l=b:=⟨_,rfl⟩
  rw [hfb] at FW
  have HD:=Lib.hid (d0 fb hfb.symm)
  clear hc d0 hfb
  go_enter Tryz.func10,Tryz.ntmps10
  cases fb with
  | false=>
   go_wp2_with fail
   with_reducible refine FW.out.mono ?_
   rintro e W1 ⟨rfl,q1,rfl⟩
   go_wp2_with fail
   with_reducible refine (AL.out _ (below_of_drewN w q1)).mono ?_
   rintro e W2 ⟨rfl,hb2⟩
   have HBa:=Lib.hid ((below_of_drewN w q1).trans (hb2.mono (below_of_drewN w q1).size))
   clear hb2
   go_wp2_with fail
   go_ret
   exact ⟨rfl,HBa.out⟩
  | true=>
   have d1:=HD.out rfl
   go_wp2_with fail
   with_reducible refine FW.out.mono ?_
   rintro e W1 ⟨rfl,q1,rfl⟩
   go_wp2_with fail
   with_reducible refine (AL.out _ (below_of_drewN w q1)).mono ?_
   rintro e W2 ⟨rfl,hb2⟩
   have HBa:=Lib.hid ((below_of_drewN w q1).trans (hb2.mono (below_of_drewN w q1).size))
   clear hb2
   go_wp2_with fail
   go_ret
   exact ⟨rfl,HBa.out⟩
end Go.Proofs.YtkhmjidaeliccaaGreatDoor
namespace Go.Proofs.YtkhmjidaeliccaaGreatDoor
open Go.ChangeShapes Go.WideShapes Go.ChangeAt Go.RowKit
theorem open_recs {H:Type} {enc:TypeId × Value→H} {P:Program} {w:World} {base:Nat} {spare:Nat→Bool} {held:Bool} {t e:TypeId} {α:Type} [Inhabited α] (en:α→List Value) (k:Nat) (k0:0 < k) (hk:∀x,(en x).length=k) (R:α→Prop)
  (ht:P.underlying t=some (.slice e)) (hc:P.cellsOf e=k)
  (hread:∀fuel cs x,cs.length=k→DataW.trod enc P w base spare held fuel e cs=some x→∃a:α,cs=en a∧R a)
  {fuel:Nat} {cs:List Value} {x:DataW H × List MemPlace} (h:DataW.trod enc P w base spare held fuel t cs=some x) :
  ∃A len cap,∃l:List α,cs=[.slice A len cap]∧l.length=len∧len≤cap∧cap≤9223372036854775807∧Recs en w A l∧∀a ∈ l,R a:=by
 rcases Deep.open_slice ht h with ⟨hcs,_⟩ | ⟨a,l,c,m,n,D,Pl,hcs,hb,hl,hm,hmm,_,hx⟩
 ·exact ⟨none,0,0,[],hcs,rfl,Nat.le_refl _,by omega,Sl.nil _ _,fun _ h=>by cases h⟩
 ·unfold maxLen at hm
  have hlm:l≤m:=by rw [hmm];split <;> omega
  have each:∀i,i < l→∃q:α,(∀j,j < k→w.cell? (a.add (i*k+j))=(en q)[j]?)∧R q:=by
   intro i hi
   obtain ⟨cs',h1,h2⟩:=hx i (by omega)
   rw [hc] at h1
   obtain ⟨_,hlen,hcell⟩:=World.cells?_some h1
   obtain ⟨q,hq,hr⟩:=hread _ _ _ hlen h2
   refine ⟨q,fun j hj=>?_,hr⟩
   have:=hcell j hj
   rw [Deep.add_add,hq] at this
   exact this
  obtain ⟨V,hV⟩:=Deep.choose_lt each
  refine ⟨some a,l,c,(List.range l).map V,hcs,by simp,hl,hm,?_,fun y hy=>?_⟩
  ·intro hne
   have hlen:0 < l:=by
    rcases Nat.eq_zero_or_pos l with h0 | h0
    ·subst h0;simp [flatK] at hne
    ·exact h0
   obtain ⟨b,off,spot⟩:=a
   have hz:=(hV 0 hlen).1 0 k0
   have hspot:spot=none:=by
    have h1:0 < (en (V 0)).length:=by rw [hk];exact k0
    rw [List.getElem?_eq_getElem h1] at hz
    simpa [Addr.add] using World.cell?_spot hz
   subst hspot
   refine ⟨b,off,rfl,fun j u hu=>?_⟩
   have addp:∀i,(⟨b,off,none⟩:Addr).add i=⟨b,off+i,none⟩:=fun i=>by
    unfold Addr.add
    split
    ·next h0=>subst h0;rfl
    ·rfl
   have hj:j < l*k:=by
    have:=(List.getElem?_eq_some_iff.1 hu).1
    rw [flatK_len en k hk] at this
    simpa using this
   have hi:j / k < l:=(Nat.div_lt_iff_lt_mul k0).2 hj
   have hr:j % k < k:=Nat.mod_lt _ k0
   have hjj:j / k*k+j % k=j:=by rw [Nat.mul_comm];exact Nat.div_add_mod j k
   have h1:=flatK_get en k hk ((List.range l).map V) (j / k) (j % k) (by simpa using hi) hr
   rw [hjj,hu] at h1
   have h2:=(hV (j / k) hi).1 (j % k) hr
   rw [hjj,addp] at h2
   simp only [List.getElem_map,List.getElem_range] at h1
   rw [h2,←h1]
  ·obtain ⟨i,hi,rfl⟩:=List.mem_map.1 hy
   exact (hV i (List.mem_range.1 hi)).2
end Go.Proofs.YtkhmjidaeliccaaGreatDoor
namespace Go.Proofs.YtkhmjidaeliccaaGreatDoor
open Go.ChangeShapes Go.WideShapes Go.ChangeAt Go.RowKit
end Go.Proofs.YtkhmjidaeliccaaGreatDoor
namespace Go.Proofs.YtkhmjidaeliccaaGreatDoor
open Go.ChangeShapes Go.WideShapes Go.ChangeAt Go.RowKit
section
variable {H:Type} {enc:TypeId × Value→H} {w:World} {base:Nat} {spare:Nat→Bool} {held:Bool} {fuel:Nat} {cs:List Value} {x:DataW H × List MemPlace}
instance:Inhabited Rg:=⟨⟨0,0⟩⟩
end
end Go.Proofs.YtkhmjidaeliccaaGreatDoor
namespace Go.Proofs.YtkhmjidaeliccaaGreatDoor
open Go.ChangeShapes Go.WideShapes Go.ChangeAt Go.RowKit
section
variable {H:Type} {enc:TypeId × Value→H} {w:World} {base:Nat} {spare:Nat→Bool} {held:Bool} {fuel:Nat} {cs:List Value} {x:DataW H × List MemPlace}
instance:Inhabited Spn:=⟨⟨0,0,0⟩⟩
end
section
variable {H:Type} {enc:TypeId × Value→H} {w:World} {base:Nat} {spare:Nat→Bool} {held:Bool}
end
theorem gName:Tryz.prog.globalNamed "unicodetext/ordering.hangulRanges"=some 1:=by kernel_rfl
theorem gType:(Tryz.prog.globals[1]?).map (·.type)=some 222:=by kernel_rfl
theorem laid_of {W:World} (h:laidMet Tryz.prog [("unicodetext/ordering.hangulRanges",Rows.laid_unicodetext_ordering_hangulRanges)] W):Laid W:=by
 obtain ⟨ps,⟨g',t',cs,fuel,p,q,hg',ht',hvar,hd,_,_⟩,_⟩:=h
 obtain rfl:=Option.some.inj (gName.symm.trans hg')
 obtain rfl:=Option.some.inj (gType.symm.trans ht')
 have cr:Tryz.prog.cellsOf 179=2:=by kernel_rfl
 have ci:Tryz.prog.cellsOf 3=1:=by kernel_rfl
 obtain ⟨xs,m,_,hxy,hlen,hxl,hel⟩:=DataW.trod_array Tryz.underlying222 hd
 match xs,hxl with
 | [y0,y1,y2,y3],_=>
  simp only [Rows.laid_unicodetext_ordering_hangulRanges,Prod.mk.injEq,DataW.agg.injEq,List.map_cons,List.map_nil,List.cons.injEq,and_true] at hxy
  obtain ⟨⟨e0,e1,e2,e3⟩,_⟩:=hxy
  have pair:∀(enc:TypeId × Value→Unit) (base:Nat) (spare:Nat→Bool) (held:Bool) (i:Nat) (a b:Int) (y:DataW Unit × List MemPlace),DataW.trod enc Tryz.prog W base spare held m 179 ((cs.toList.drop (i*2)).take 2)=some y→.agg [.lit (.int .i64 a),.lit (.int .i64 b)]=y.1→cs.toList[i*2]?=some (.int .i64 a)∧cs.toList[i*2+1]?=some (.int .i64 b):=by
   intro enc base spare held i a b y hy he
   obtain ⟨zs,k,_,hz,hzl,hzn,hfs⟩:=DataW.trod_struct Tryz.underlying179 hy
   match zs,hzn with
   | [u0,u1],_=>
    have g0:=hfs 0 _ rfl
    have g1:=hfs 1 _ rfl
    obtain ⟨z0,f0,rfl,_⟩:=DataW.trod_int Tryz.underlying3 g0
    obtain ⟨z1,f1,rfl,_⟩:=DataW.trod_int Tryz.underlying3 g1
    subst hz
    simp at he
    obtain ⟨rfl,rfl⟩:=he
    have h0:=congrArg (·[0]?) f0
    have h1:=congrArg (·[0]?) f1
    simp [ci,List.getElem?_drop] at h0 h1
    exact ⟨by simpa using h0,by simpa using h1⟩
  rw [cr] at hel
  have p0:=pair _ _ _ _ 0 _ _ _ (hel 0 (by omega)) e0
  have p1:=pair _ _ _ _ 1 _ _ _ (hel 1 (by omega)) e1
  have p2:=pair _ _ _ _ 2 _ _ _ (hel 2 (by omega)) e2
  have p3:=pair _ _ _ _ 3 _ _ _ (hel 3 (by omega)) e3
  have cell:=fun i=>World.var?_cell gName hvar i
  simp only [←Array.getElem?_toList] at cell
  exact ⟨(cell 0).trans p0.1,(cell 1).trans p0.2,(cell 2).trans p1.1,(cell 3).trans p1.2,(cell 4).trans p2.1,(cell 5).trans p2.2,(cell 6).trans p3.1,(cell 7).trans p3.2⟩
end Go.Proofs.YtkhmjidaeliccaaGreatDoor
namespace Go.Proofs.YtkhmjidaeliccaaGreatDoor
open Go.ChangeShapes Go.WideShapes Go.ChangeAt Go.RowKit
section
variable {H:Type} {enc:TypeId × Value→H} {w:World} {base:Nat} {spare:Nat→Bool} {held:Bool} {fuel:Nat} {cs:List Value} {x:DataW H × List MemPlace}
theorem ci:Tryz.prog.cellsOf 3=1:=by kernel_rfl
theorem cs':Tryz.prog.cellsOf 9=1:=by kernel_rfl
theorem cb':Tryz.prog.cellsOf 4=1:=by kernel_rfl
theorem cI:Tryz.prog.cellsOf 33=1:=by kernel_rfl
instance:Inhabited Grp:=⟨⟨.empty,0,0⟩⟩
instance:Inhabited Elt:=⟨⟨0,0,0,false⟩⟩
instance:Inhabited Ent:=⟨⟨[],[]⟩⟩
end
end Go.Proofs.YtkhmjidaeliccaaGreatDoor
namespace Go.Proofs.YtkhmjidaeliccaaGreatDoor
open Go.ChangeShapes Go.WideShapes Go.ChangeAt Go.RowKit Tl
def Txt (w:World) (A:Option Addr) (k:Nat) (t:List Int):Prop:=Ints w A t∧t.length≤k∧k≤9223372036854775807∧∀z ∈ t,iok z
theorem Txt.below {w w':World} {A:Option Addr} {k:Nat} {t:List Int} (h:Txt w A k t) (hb:Below w.heap.size w w'):Txt w' A k t:=⟨h.1.below hb,h.2⟩
def TlrB (t:Tlr):Prop:=t.anc.length≤9223372036854775807∧t.cds.length≤9223372036854775807∧(∀z ∈ t.anc,iok z)∧∀z ∈ t.cds,iok z
abbrev TlV:=(Option Addr × Nat × Option Addr × Nat) × Tlr
theorem tlrs_flat:∀vs:List TlV,tlrsC (vs.map Prod.fst) (vs.map Prod.snd)=flatK (fun p:TlV=>tlrC p.1 p.2) vs
 | []=>rfl
 | v::vs=>by
  show tlrC v.1 v.2++tlrsC (vs.map Prod.fst) (vs.map Prod.snd)=_
  rw [tlrs_flat vs]
  rfl
section
variable {H:Type} {enc:TypeId × Value→H} {w:World} {base:Nat} {spare:Nat→Bool} {held:Bool} {fuel:Nat} {cs:List Value} {x:DataW H × List MemPlace}
theorem open_txt (h:DataW.trod enc Tryz.prog w base spare held fuel 33 cs=some x) :
  ∃A len cap,∃l:List Int,cs=[.slice A len cap]∧l.length=len∧Txt w A cap l:=by
 obtain ⟨A,len,cap,l,h1,h2,h3,h4,h5,h6⟩:=open_recs (α:=Int) (fun z=>[.int .i64 z]) 1 (by omega) (fun _=>rfl) (fun z=>iok z) Tryz.underlying33 ci (fun fuel cs x hl hx=>by
  obtain ⟨z,hz,_,hw⟩:=DataW.trod_int Tryz.underlying3 hx
  exact ⟨z,hz,hw⟩) h
 refine ⟨A,len,cap,l,h1,h2,?_,by omega,h4,h6⟩
 unfold Recs flatK at h5
 unfold Ints
 rw [show l.map (Value.int .i64)=l.flatMap (fun z=>[.int .i64 z]) by clear h2 h5 h6;induction l <;> simp_all]
 exact h5
theorem open_tlr (h:DataW.trod enc Tryz.prog w base spare held fuel 35 cs=some x) (hl:cs.length=4) :
  ∃p:TlV,cs=tlrC p.1 p.2∧Txt w p.1.1 p.1.2.1 p.2.anc∧Txt w p.1.2.2.1 p.1.2.2.2 p.2.cds∧iok p.2.lvl:=by
 obtain ⟨xs,k,hk,hxy,_,hxl,hfs⟩:=DataW.trod_struct Tryz.underlying35 h
 match xs,hxl,cs,hl with
 | [y0,y1,y2,y3],_,[v0,v1,v2,v3],_=>
  have g0:=hfs 0 _ rfl
  have g1:=hfs 1 _ rfl
  have g2:=hfs 2 _ rfl
  have g3:=hfs 3 _ rfl
  simp [ci,cI,cb'] at g0 g1 g2 g3
  obtain ⟨A0,n0,c0,l0,e0,f0,i0⟩:=open_txt g0
  obtain ⟨A1,n1,c1,l1,e1,f1,i1⟩:=open_txt g1
  obtain ⟨z2,e2,_,w2⟩:=DataW.trod_int Tryz.underlying3 g2
  obtain ⟨z3,e3,_⟩:=DataW.trod_bool Tryz.underlying4 g3
  simp at e0 e1 e2 e3
  subst e0;subst e1;subst e2;subst e3;subst f0;subst f1
  exact ⟨((A0,c0,A1,c1),⟨l0,l1,z2,z3⟩),rfl,i0,i1,w2⟩
theorem open_tlss (h:DataW.trod enc Tryz.prog w base spare held fuel 44 cs=some x) :
  ∃A len cap,∃l:List Tlr,cs=[.slice A len cap]∧l.length=len∧len≤cap∧cap≤9223372036854775807∧Tlrs w A l∧∀t ∈ l,TlrB t:=by
 have:Inhabited TlV:=⟨((none,0,none,0),⟨[],[],0,false⟩)⟩
 obtain ⟨A,len,cap,vs,h1,h2,h3,h4,h5,h6⟩:=open_recs (α:=TlV) (fun p=>tlrC p.1 p.2) 4 (by omega) (fun _=>rfl) (fun p=>Txt w p.1.1 p.1.2.1 p.2.anc∧Txt w p.1.2.2.1 p.1.2.2.2 p.2.cds) Tryz.underlying44 (by kernel_rfl) (fun fuel cs x hl hx=>by
  obtain ⟨p,e,i0,i1,_⟩:=open_tlr hx hl
  exact ⟨p,e,i0,i1⟩) h
 refine ⟨A,len,cap,vs.map Prod.snd,h1,by simpa using h2,h3,h4,⟨vs.map Prod.fst,by simp,?_,fun i hi hv=>?_⟩,fun t ht=>?_⟩
 ·rw [tlrs_flat]
  exact h5
 ·have hi':i < vs.length:=by simpa using hi
  have hp:=h6 _ (List.getElem_mem hi')
  simp only [List.getElem_map]
  exact ⟨hp.1.1,hp.2.1⟩
 ·obtain ⟨p,hp,rfl⟩:=List.mem_map.1 ht
  obtain ⟨a,b⟩:=h6 p hp
  exact ⟨Nat.le_trans a.2.1 a.2.2.1,Nat.le_trans b.2.1 b.2.2.1,a.2.2.2,b.2.2.2⟩
end
section
variable {H:Type} {enc:TypeId × Value→H} {w:World} {base:Nat} {spare:Nat→Bool} {held:Bool}
theorem open_tlrs {A:Option Addr} {n c:Nat} {d:DataW H} {p:List MemPlace} (h:DataW.Trod enc Tryz.prog w base spare held 44 (.slice A n c) d p) :
  ∃l:List Tlr,l.length=n∧n≤c∧c≤9223372036854775807∧Tlrs w A l∧∀t ∈ l,TlrB t:=by
 obtain ⟨fuel,hf⟩:=h
 obtain ⟨A',n',c',l,e,h1,h2,h3,h4⟩:=open_tlss hf
 have e':[Value.slice A n c]=[.slice A' n' c']:=e
 injection e' with e' _
 injection e' with ea en ec
 subst ea;subst en;subst ec
 exact ⟨l,h1,h2,h3,h4⟩
end
end Go.Proofs.YtkhmjidaeliccaaGreatDoor
namespace Go.Proofs.YtkhmjidaeliccaaGreatDoor
open Go.ChangeShapes Go.WideShapes Go.ChangeAt Go.RowKit Tl Pa
theorem gNameD:Tryz.prog.globalNamed "unicodetext/codepoint.digits"=some 0:=by kernel_rfl
theorem gTypeD:(Tryz.prog.globals[0]?).map (·.type)=some 220:=by kernel_rfl
def dgs:List Int:=[48,49,50,51,52,53,54,55,56,57,65,66,67,68,69,70]
theorem dgs_at:∀i:Nat,i < 16→dgs.getD i 0=hd i:=by decide
theorem laid2_of {W:World} (h:laidMet Tryz.prog [("unicodetext/codepoint.digits",Rows.laid_unicodetext_codepoint_digits),("unicodetext/ordering.hangulRanges",Rows.laid_unicodetext_ordering_hangulRanges)] W):LaidG W∧Laid W:=by
 have h1:Lib.TabIs Tryz.prog W "unicodetext/codepoint.digits" .u8 dgs:=Lib.tabIs_of_head gNameD gTypeD Tryz.underlying220 Tryz.underlying5 (by kernel_rfl) (by kernel_rfl) h
 refine ⟨fun i hi=>?_,laid_of ?_⟩
 ·rw [←dgs_at i hi]
  exact h1.cell gNameD i hi
 ·have h2:=h.filter (fun x=>x.1== "unicodetext/ordering.hangulRanges")
  simpa using h2
end Go.Proofs.YtkhmjidaeliccaaGreatDoor
