/- Texts that are merged into one file: MapCk, RefMap. -/
import Derived.Test.YtijgbonhjcblcaaGreatDoorM02
import Derived.Test.YtijgbonhjcblcaaGreatDoorM03
import Derived.Test.YtijgbonhjcblcaaGreatDoorM04
set_option maxRecDepth 100000
set_option maxHeartbeats 51200000
namespace Go.Proofs.YtijgbonhjcblcaaGreatDoor
open Go.RowKit Go.Maps Go.WideMaps
section
variable {ms:List Mp}
theorem parts1 {k:Nat} (hk:k < ms.length) (h:mpBad ms[k]=true):partsErr ms=1:=by unfold partsErr;rw [if_pos (anyT hk h)]
theorem parts2 (h1:∀t,(ht:t < ms.length)→mpBad ms[t]=false) {k:Nat} (hk:k < ms.length) (h:64 < ms[k].to.length):partsErr ms=2:=by
 unfold partsErr;rw [if_neg (by rw [anyF h1];simp),if_pos (anyT hk (by simpa using h))]
theorem parts6 (h1:∀t,(ht:t < ms.length)→mpBad ms[t]=false) (h2:∀t,(ht:t < ms.length)→¬64 < ms[t].to.length) {k:Nat} (hk:k < ms.length) (h:tagBad ms[k]=true):partsErr ms=6:=by
 unfold partsErr;rw [if_neg (by rw [anyF h1];simp),if_neg (by rw [anyF (fun t ht=>by simpa using h2 t ht)];simp),if_pos (anyT hk h)]
theorem parts0 (h1:∀t,(ht:t < ms.length)→mpBad ms[t]=false) (h2:∀t,(ht:t < ms.length)→¬64 < ms[t].to.length) (h3:∀t,(ht:t < ms.length)→tagBad ms[t]=false):partsErr ms=0:=by
 unfold partsErr;rw [if_neg (by rw [anyF h1];simp),if_neg (by rw [anyF (fun t ht=>by simpa using h2 t ht)];simp),if_neg (by rw [anyF h3];simp)]
theorem parts_ok (h:partsErr ms=0):∀m ∈ ms,mpBad m=false∧m.to.length≤64∧tagBad m=false:=by
 unfold partsErr at h
 split at h
 ·cases h
 ·next h1=>
  split at h
  ·cases h
  ·next h2=>
   split at h
   ·cases h
   ·next h3=>
    intro m hm
    simp only [Bool.not_eq_true,List.any_eq_false] at h1 h2 h3
    have a:=h1 m hm
    have b:=h2 m hm
    have c:=h3 m hm
    refine ⟨by simpa using a,?_,by simpa using c⟩
    simp at b
    exact b
end
theorem mpBad_from {m:Mp} (h:inR 0 1114111 m.frm=false):mpBad m=true:=by unfold mpBad;rw [h];rfl
theorem mpBad_to {m:Mp} {k:Nat} (hk:k < m.to.length) (h:inR 0 1114111 m.to[k]=false):mpBad m=true:=by
 unfold mpBad
 rw [Bool.or_eq_true]
 right
 exact anyT hk (by rw [h];rfl)
theorem mpBad_no {m:Mp} (h0:inR 0 1114111 m.frm=true) (h:∀t,(ht:t < m.to.length)→inR 0 1114111 m.to[t]=true):mpBad m=false:=by
 unfold mpBad
 rw [h0,anyF (fun t ht=>by rw [h t ht];rfl)]
 rfl
theorem mpBad_facts {m:Mp} (h:mpBad m=false):(0≤m.frm∧m.frm≤1114111)∧∀z ∈ m.to,0≤z∧z≤1114111:=by
 unfold mpBad at h
 rw [Bool.or_eq_false_iff] at h
 refine ⟨inR_iff.1 (by simpa using h.1),fun z hz=>?_⟩
 have:=List.any_eq_false.1 h.2 z hz
 exact inR_iff.1 (by simpa using this)
theorem tagBad_facts {m:Mp} (h:tagBad m=false):m.tag.size≤32:=by
 unfold tagBad at h
 by_cases h0:m.tag.size=0
 ·omega
 ·have:nameOk m.tag=true:=by simpa [h0] using h
  unfold nameOk at this
  simp at this
  omega
theorem tagBad_empty {m:Mp} (h:m.tag.size=0):tagBad m=false:=by unfold tagBad;simp [h]
theorem tagBad_name {m:Mp} (h:¬m.tag.size=0):tagBad m=!nameOk m.tag:=by unfold tagBad;simp [h]
theorem parts_any (A:Option Addr) (n a:Nat) (ms:List Mp) (w:World) (hA:Mps w A ms) (hn:ms.length=n) (hz:MpsSz ms) :
  Calls Tryz.prog 132 #[.slice A n a] w (RetInt (partsErr ms) w):=by
 subst hn
 have HA:=Lib.hid hA
 have hnz:=hz.n
 have HZ:=Lib.hid hz.e
 have P1:=Lib.hid (fun k hk h=>parts1 (ms:=ms) (k:=k) hk h)
 have P2:=Lib.hid (fun h1 k hk h=>parts2 (ms:=ms) h1 (k:=k) hk h)
 have P6:=Lib.hid (fun h1 h2 k hk h=>parts6 (ms:=ms) h1 h2 (k:=k) hk h)
 have P0:=Lib.hid (parts0 (ms:=ms))
 clear hA hz
 generalize partsErr ms=R at *
 go_enter Tryz.func132,Tryz.ntmps132
 go_wp2_with fail
 go_loopw [13] (fun u wr=>∃i:Nat,i≤ms.length∧u=.int .i64 i∧(∀t,(ht:t < ms.length)→t < i→mpBad ms[t]=false)∧Below w.heap.size w wr) (fun u _=>ms.length - (intOf u).toNat)
 case atStart=>exact ⟨0,Nat.zero_le _,rfl,fun t _ h=>by omega,Below.refl _ _⟩
 case round=>
  obtain ⟨i,hi,rfl,hno,hbr⟩:=hrel
  have HNO:=Lib.hid hno
  clear hno
  by_cases hlt:i < ms.length
  ·obtain ⟨b1,o1,rfl,hbl,hcell⟩:=(HA.out.below hbr).at hlt
   obtain ⟨C,cc,c0,c1,c2,hcc,hC⟩:=hcell i hlt
   obtain ⟨z1,z2⟩:=HZ.out i hlt
   have HB:=Lib.hid (fun h=>P1.out i hlt h)
   have HN:=Lib.hid (fun h=>all_up (P:=fun m=>mpBad m=false) hlt HNO.out h)
   clear hcell
   generalize ms[i]=mi at *
   have M0:=Lib.hid (mpBad_from (m:=mi))
   have M1:=Lib.hid (fun k hk h=>mpBad_to (m:=mi) (k:=k) hk h)
   have M2:=Lib.hid (mpBad_no (m:=mi))
   generalize mpBad mi=bd at *
   obtain ⟨mf,mt,mg⟩:=mi
   dsimp only at *
   have Ba:Below wr.heap.size wr (wr.alloc (.cells #[.int .i64 mf,.slice C mt.length cc,.string mg] 63)):=(Below.refl _ _).alloc (Nat.le_refl _) _
   have HCa:=Lib.hid (hC.below Ba)
   have hb2:=hbr.trans (Ba.mono hbr.size)
   have e1:(wr.alloc (.cells #[.int .i64 mf,.slice C mt.length cc,.string mg] 63)).cell? ⟨wr.heap.size,1,none⟩=some (.slice C mt.length cc):=by simp
   have E1:=Lib.hid e1
   have WaE:∃Wa,(wr.alloc (.cells #[.int .i64 mf,.slice C mt.length cc,.string mg] 63))=Wa:=⟨_,rfl⟩
   clear hC e1
   cases hv:inR 0 1114111 mf with
   | false=>
    obtain rfl:=M0.out hv
    have HR:=Lib.hid (HB.out rfl)
    go_wp2_with (go_at_call 124;refine (cpValid_any mf _).mono ?_;rw [hv];rintro e w' ⟨rfl,rfl⟩)
    go_ret
    exact ⟨ret_int HR.out.symm,hb2⟩
   | true=>
    go_wp2_with (go_at_call 124;refine (cpValid_any mf _).mono ?_;rw [hv];rintro e w' ⟨rfl,rfl⟩)
    obtain ⟨Wa,hWa⟩:=WaE
    rw [hWa] at Ba HCa hb2 E1 ⊢
    clear hWa c0 c1 c2
    obtain ⟨wr0,rfl⟩:∃wr0:World,wr0=wr:=⟨_,rfl⟩
    go_loop [24] (fun u=>∃k:Nat,k≤mt.length∧u=.int .i64 k∧(∀t,(ht:t < mt.length)→t < k→inR 0 1114111 mt[t]=true)) (fun u=>mt.length - (intOf u).toNat)
    case atStart=>exact ⟨0,Nat.zero_le _,rfl,fun t _ h=>by omega⟩
    case round=>
     obtain ⟨k,hk,rfl,hok⟩:=hrel
     have HOK:=Lib.hid hok
     clear hok
     by_cases hltk:k < mt.length
     ·obtain ⟨b2,o2,rfl,hc2⟩:=HCa.out.at hltk
      have d0:=hc2 k hltk
      have HBK:=Lib.hid (fun h=>M1.out k hltk h)
      have HNK:=Lib.hid (fun h=>all_up (P:=fun z=>inR 0 1114111 z=true) hltk HOK.out h)
      clear hc2
      generalize mt[k]=z at *
      cases hvz:inR 0 1114111 z with
      | false=>
       obtain rfl:=HBK.out hvz
       have HR:=Lib.hid (HB.out rfl)
       go_wp2_with (go_at_call 124;refine (cpValid_any z _).mono ?_;rw [hvz];rintro e w' ⟨rfl,rfl⟩)
       go_ret
       exact ⟨ret_int HR.out.symm,hb2⟩
      | true=>
       have HQ:=Lib.hid (HNK.out hvz)
       go_wp2_with (go_at_call 124;refine (cpValid_any z _).mono ?_;rw [hvz];rintro e w' ⟨rfl,rfl⟩)
       go_round
       case rel=>exact ⟨k+1,by omega,by go_num,HQ.out⟩
       case measure=>simp [intOf];omega
     ·obtain rfl:=M2.out hv (fun t ht=>HOK.out t ht (by omega))
      have HQ:=Lib.hid (HN.out rfl)
      go_wp2_with fail
      go_roundw
      case rel=>exact ⟨i+1,by omega,by go_num,HQ.out,hb2⟩
      case measure=>simp [intOf];omega
  ·have H1:=Lib.hid (fun t (ht:t < ms.length)=>HNO.out t ht (by omega))
   clear HNO P1
   go_wp2_with fail
   go_loopw [35] (fun u wr=>∃i:Nat,i≤ms.length∧u=.int .i64 i∧(∀t,(ht:t < ms.length)→t < i→¬64 < ms[t].to.length)∧Below w.heap.size w wr) (fun u _=>ms.length - (intOf u).toNat)
   case atStart=>exact ⟨0,Nat.zero_le _,rfl,fun t _ h=>by omega,hbr⟩
   case round=>
    obtain ⟨i,hi,rfl,hno,hbr⟩:=hrel
    have HNO:=Lib.hid hno
    clear hno
    by_cases hlt:i < ms.length
    ·obtain ⟨b1,o1,rfl,hbl,hcell⟩:=(HA.out.below hbr).at hlt
     obtain ⟨C,cc,c0,c1,c2,hcc,hC⟩:=hcell i hlt
     obtain ⟨z1,z2⟩:=HZ.out i hlt
     have HB:=Lib.hid (fun h=>P2.out H1.out i hlt h)
     have HN:=Lib.hid (fun h=>all_up (P:=fun m:Mp=>¬64 < m.to.length) hlt HNO.out h)
     clear hcell hC
     generalize ms[i]=mi at *
     obtain ⟨mf,mt,mg⟩:=mi
     dsimp only at *
     have hb2:=hbr.trans (((Below.refl wr.heap.size wr).alloc (Nat.le_refl _) (.cells #[.int .i64 mf,.slice C mt.length cc,.string mg] 63)).mono hbr.size)
     by_cases h64:64 < mt.length
     ·have q1:decide ((64:Int) < (mt.length:Int))=true:=by simp;omega
      obtain rfl:=HB.out h64
      go_wp2_with fail
      go_ret
      exact ⟨rfl,hb2⟩
     ·have q1:decide ((64:Int) < (mt.length:Int))=false:=by simp;omega
      have HQ:=Lib.hid (HN.out h64)
      go_wp2_with fail
      go_roundw
      case rel=>exact ⟨i+1,by omega,by go_num,HQ.out,hb2⟩
      case measure=>simp [intOf];omega
    ·have H2:=Lib.hid (fun t (ht:t < ms.length)=>HNO.out t ht (by omega))
     clear HNO P2
     go_wp2_with fail
     go_loopw [46] (fun u wr=>∃i:Nat,i≤ms.length∧u=.int .i64 i∧(∀t,(ht:t < ms.length)→t < i→tagBad ms[t]=false)∧Below w.heap.size w wr) (fun u _=>ms.length - (intOf u).toNat)
     case atStart=>exact ⟨0,Nat.zero_le _,rfl,fun t _ h=>by omega,hbr⟩
     case round=>
      obtain ⟨i,hi,rfl,hno,hbr⟩:=hrel
      have HNO:=Lib.hid hno
      clear hno
      by_cases hlt:i < ms.length
      ·obtain ⟨b1,o1,rfl,hbl,hcell⟩:=(HA.out.below hbr).at hlt
       obtain ⟨C,cc,c0,c1,c2,hcc,hC⟩:=hcell i hlt
       obtain ⟨z1,z2⟩:=HZ.out i hlt
       have HB:=Lib.hid (fun h=>P6.out H1.out H2.out i hlt h)
       have HN:=Lib.hid (fun h=>all_up (P:=fun m:Mp=>tagBad m=false) hlt HNO.out h)
       clear hcell hC
       generalize ms[i]=mi at *
       have T0:=Lib.hid (tagBad_empty (m:=mi))
       have T1:=Lib.hid (tagBad_name (m:=mi))
       generalize tagBad mi=tb at *
       obtain ⟨mf,mt,mg⟩:=mi
       dsimp only at *
       have hb2:=hbr.trans (((Below.refl wr.heap.size wr).alloc (Nat.le_refl _) (.cells #[.int .i64 mf,.slice C mt.length cc,.string mg] 63)).mono hbr.size)
       by_cases hg:mg.size=0
       ·have g0:mg.toList=[]:=str_nil hg
        have HQ:=Lib.hid (HN.out (T0.out hg))
        clear T0 T1 HB HN
        go_wp2_with fail
        go_roundw
        case rel=>exact ⟨i+1,by omega,by go_num,HQ.out,hb2⟩
        case measure=>simp [intOf];omega
       ·have g0:¬mg.toList=[]:=str_cons hg
        have g1:mg.toList.isEmpty=false:=by simpa using g0
        have hT:=T1.out hg
        cases hnm:nameOk mg with
        | true=>
         rw [hnm] at hT
         have HQ:=Lib.hid (HN.out hT)
         clear hT T0 T1 HB HN
         go_wp2_with (go_at_call 157;refine (mapName_any mg _ z2).mono ?_;rw [hnm];rintro e w' ⟨rfl,rfl⟩)
         go_roundw
         case rel=>exact ⟨i+1,by omega,by go_num,HQ.out,hb2⟩
         case measure=>simp [intOf];omega
        | false=>
         rw [hnm] at hT
         obtain rfl:=HB.out hT
         clear hT T0 T1 HB HN
         go_wp2_with (go_at_call 157;refine (mapName_any mg _ z2).mono ?_;rw [hnm];rintro e w' ⟨rfl,rfl⟩)
         go_ret
         exact ⟨rfl,hb2⟩
      ·obtain rfl:=P0.out H1.out H2.out (fun t ht=>HNO.out t ht (by omega))
       go_wp2_with fail
       go_ret
       exact ⟨rfl,hbr⟩
theorem ascM_take {ms:List Mp} {i:Nat} (h1:1≤i) (hi:i < ms.length):ascM (ms.take (i+1))=(ascM (ms.take i)&&decide (cmpM (ms[i - 1]'(by omega)) ms[i] < 0)):=by
 induction ms generalizing i with
 | nil=>simp at hi
 | cons a r ih=>
  cases r with
  | nil=>simp at hi;omega
  | cons b r=>
   by_cases e:i=1
   ·subst e;simp [ascM]
   ·obtain ⟨j,rfl⟩:∃j,i=j+2:=⟨i - 2,by omega⟩
    have:=ih (i:=j+1) (by omega) (by simpa using hi)
    simp only [List.take_succ_cons,ascM] at this ⊢
    rw [this,Bool.and_assoc]
    simp
theorem ascM_one {ms:List Mp} {i:Nat} (h:i≤1):ascM (ms.take i)=true:=by
 match i,ms with
 | 0,_=>rfl
 | 1,[]=>rfl
 | 1,_::_=>rfl
section
variable {ms:List Mp}
theorem mapP (h:partsErr ms≠0):mapErr ms=partsErr ms:=by unfold mapErr;rw [if_pos h]
theorem map0 (h:partsErr ms=0) (ha:ascM ms=true):mapErr ms=0:=by unfold mapErr;rw [if_neg (by simpa using h),if_pos ha]
theorem map5 (h:partsErr ms=0) (ha:ascM ms=false) (hd:¬(ms.map keyM).Nodup):mapErr ms=5:=by unfold mapErr;rw [if_neg (by simpa using h),if_neg (by simp [ha]),if_neg hd]
theorem map4 (h:partsErr ms=0) (ha:ascM ms=false) (hd:(ms.map keyM).Nodup):mapErr ms=4:=by unfold mapErr;rw [if_neg (by simpa using h),if_neg (by simp [ha]),if_pos hd]
def kms (ms:List Mp) (k:Nat):List (Int × ByteArray):=(ms.take k).map keyM
theorem kms_succ {k:Nat} (hk:k < ms.length):kms ms (k+1)=kms ms k++[keyM ms[k]]:=by
 unfold kms;rw [List.take_succ_eq_append_getElem hk,List.map_append];rfl
theorem kms_dup {k:Nat} (hk:k < ms.length) (h:keyM ms[k] ∈ kms ms k):¬(ms.map keyM).Nodup:=by
 intro hn
 have hs:(kms ms (k+1)).Sublist (ms.map keyM):=by unfold kms;exact (List.take_sublist _ _).map _
 have h1:=hn.sublist hs
 rw [kms_succ hk,List.nodup_append] at h1
 exact h1.2.2 _ h _ (List.mem_singleton.2 rfl) rfl
theorem kms_nodup {k:Nat} (hk:k < ms.length) (hn:(kms ms k).Nodup) (h:keyM ms[k] ∉ kms ms k):(kms ms (k+1)).Nodup:=by
 rw [kms_succ hk,List.nodup_append]
 refine ⟨hn,by simp,fun a ha b hb e=>?_⟩
 rw [List.mem_singleton] at hb
 subst hb;subst e
 exact h ha
theorem key_mok {m:Mp} (h1:mpBad m=false) (h2:tagBad m=false):mok (keyM m):=by
 have a:=(mpBad_facts h1).1
 have b:=tagBad_facts h2
 refine ⟨?_,by unfold maxLen;show m.tag.size≤_;omega⟩
 exact wf_small (by show _≤m.frm;omega) (by show m.frm≤_;omega)
end
theorem mapCheck_any (A:Option Addr) (n a:Nat) (ms:List Mp) (w:World) (hA:Mps w A ms) (hn:ms.length=n) (hz:MpsSz ms) :
  Calls Tryz.prog 91 #[.slice A n a] w (RetInt (mapErr ms) w):=by
 subst hn
 have PC:=Lib.hid (parts_any A ms.length a ms w hA rfl hz)
 have HA:=Lib.hid hA
 have hnz:=hz.n
 have EP:=Lib.hid (mapP (ms:=ms))
 have E0:=Lib.hid (map0 (ms:=ms))
 have E4:=Lib.hid (map4 (ms:=ms))
 have E5:=Lib.hid (map5 (ms:=ms))
 have OKS:=Lib.hid (parts_ok (ms:=ms))
 have hmm:=@run_makeMap Tryz.prog
 clear hA hz
 generalize mapErr ms=R at *
 generalize partsErr ms=pe at *
 go_enter Tryz.func91,Tryz.ntmps91
 go_wp2_with fail
 with_reducible refine PC.out.mono ?_
 rintro e W1 ⟨rfl,hb1⟩
 clear PC
 by_cases hpe:pe=0
 rotate_left
 ·have q1:(pe != 0)=true:=by simpa using hpe
  obtain rfl:=EP.out hpe
  clear hpe EP E0 E4 E5
  go_wp2_with fail
  go_ret
  exact ⟨rfl,hb1⟩
 have q1:(pe != 0)=false:=by simpa using hpe
 have E0':=Lib.hid (E0.out hpe)
 have E4':=Lib.hid (E4.out hpe)
 have E5':=Lib.hid (E5.out hpe)
 have OK:=Lib.hid (fun i (hi:i < ms.length)=>OKS.out hpe ms[i] (List.getElem_mem hi))
 have A1:=Lib.hid (ascM_one (ms:=ms) (i:=1) (by omega))
 clear EP E0 E4 E5 OKS hpe
 go_wp2_with fail
 go_loopw [4,5] (fun v u wr=>∃i:Nat,1≤i∧(i≤ms.length∨i=1)∧u=.int .i64 i∧v=.bool (ascM (ms.take i))∧Below w.heap.size w wr) (fun _ u _=>ms.length - (intOf u).toNat)
 case atStart=>exact ⟨1,by omega,.inr rfl,rfl,by rw [A1.out],hb1⟩
 case round=>
  obtain ⟨i,hi1,hi2,rfl,rfl,hbr⟩:=hrel
  by_cases hlt:i < ms.length
  ·obtain ⟨b1,o1,rfl,hbl,hcell⟩:=(HA.out.below hbr).at hlt
   obtain ⟨C,cc,c0,c1,c2,_,_⟩:=hcell i hlt
   obtain ⟨D,dd,d0,d1,d2,_,_⟩:=hcell (i - 1) (by omega)
   have HT:=Lib.hid (ascM_take hi1 hlt)
   have MC:=Lib.hid (fun W=>mapCompare_any (ms[i - 1]'(by omega)) ms[i] (.slice D (ms[i - 1]'(by omega)).to.length dd) (.slice C ms[i].to.length cc) W)
   clear hcell
   generalize cmpM (ms[i - 1]'(by omega)) ms[i]=cv at *
   generalize (ms[i - 1]'(by omega))=ma at *
   generalize ms[i]=mb at *
   obtain ⟨af,al',ag⟩:=ma
   obtain ⟨bf,bl'',bg⟩:=mb
   dsimp only at *
   generalize al'.length=al at *
   generalize bl''.length=bl' at *
   have i1:(0:Int)≤(i:Int) - 1:=by omega
   have i2:(i:Int) - 1 < (ms.length:Int):=by omega
   have i3:((i:Int) - 1).toNat=i - 1:=by omega
   have i4:(i:Int) < (ms.length:Int):=by omega
   have i5:(0:Int)≤(i:Int):=by omega
   have i6:(1:Int)≤(i:Int):=by omega
   have w1:IntKind.i64.wrap ((i:Int) - 1)=(i:Int) - 1:=IntWalk.i64_in _ (by omega)
   have KS:=Lib.hid (show ∀W',Below wr.heap.size wr W'→W'.cell? ⟨b1,o1+(i - 1)*3,none⟩=some (.int .i64 af)∧W'.cell? ⟨b1,o1+(i - 1)*3+1,none⟩=some (.slice D al dd)∧W'.cell? ⟨b1,o1+(i - 1)*3+2,none⟩=some (.string ag)∧W'.cell? ⟨b1,o1+i*3,none⟩=some (.int .i64 bf)∧W'.cell? ⟨b1,o1+i*3+1,none⟩=some (.slice C bl' cc)∧W'.cell? ⟨b1,o1+i*3+2,none⟩=some (.string bg)∧Below wr.heap.size wr W' from fun W' hb=>⟨(hb.cell (p:=⟨b1,o1+(i - 1)*3,none⟩) hbl).trans d0,(hb.cell (p:=⟨b1,o1+(i - 1)*3+1,none⟩) hbl).trans d1,(hb.cell (p:=⟨b1,o1+(i - 1)*3+2,none⟩) hbl).trans d2,(hb.cell (p:=⟨b1,o1+i*3,none⟩) hbl).trans c0,(hb.cell (p:=⟨b1,o1+i*3+1,none⟩) hbl).trans c1,(hb.cell (p:=⟨b1,o1+i*3+2,none⟩) hbl).trans c2,hb⟩)
   have MC1:=Lib.hid (fun W' (hb:Below wr.heap.size wr W')=>(MC.out W').mono (R':=fun e W'=>e=.returned (.int .i64 cv)∧(W'.cell? ⟨b1,o1+(i - 1)*3,none⟩=some (.int .i64 af)∧W'.cell? ⟨b1,o1+(i - 1)*3+1,none⟩=some (.slice D al dd)∧W'.cell? ⟨b1,o1+(i - 1)*3+2,none⟩=some (.string ag)∧W'.cell? ⟨b1,o1+i*3,none⟩=some (.int .i64 bf)∧W'.cell? ⟨b1,o1+i*3+1,none⟩=some (.slice C bl' cc)∧W'.cell? ⟨b1,o1+i*3+2,none⟩=some (.string bg)∧Below wr.heap.size wr W')) (fun e w' ⟨he,hb'⟩=>⟨he,KS.out w' (hb.trans (hb'.mono hb.size))⟩))
   go_wp2_with fail
   refine wp_region_held_drew (S:=fun W'=>W'.cell? ⟨b1,o1+(i - 1)*3,none⟩=some (.int .i64 af)∧W'.cell? ⟨b1,o1+(i - 1)*3+1,none⟩=some (.slice D al dd)∧W'.cell? ⟨b1,o1+(i - 1)*3+2,none⟩=some (.string ag)∧W'.cell? ⟨b1,o1+i*3,none⟩=some (.int .i64 bf)∧W'.cell? ⟨b1,o1+i*3+1,none⟩=some (.slice C bl' cc)∧W'.cell? ⟨b1,o1+i*3+2,none⟩=some (.string bg)∧Below wr.heap.size wr W') (by kernel_rfl) (KS.out _ (Below.refl _ _).drew) (fun hHeld=>?_)
   refine tK 0 20 ?_
   refine tK 1 21 ?_
   refine tK 2 22 ?_
   refine tK 3 23 ?_
   refine tK 4 24 ?_
   refine tK 5 25 ?_
   refine tK 6 26 ?_
   refine tK 7 27 ?_
   refine tK 8 28 ?_
   refine qK 9 29 (MC1.out _ hHeld.2.2.2.2.2.2) ?_
   clear hHeld
   intro W3 hHeld
   refine tK 10 30 ?_
   refine wpAnyH_done (by kernel_rfl) ?_ _
   have Bp:=hHeld.2.2.2.2.2.2
   have hb2:=hbr.trans (Bp.mono hbr.size)
   clear hHeld c0 c1 c2 d0 d1 d2 KS MC MC1 i1 i2 i3 i4 i5 i6 w1
   by_cases hcv:0≤cv
   ·have q9:decide (0≤cv)=true:=by simpa using hcv
    have ht:=HT.out
    rw [show decide (cv < 0)=false by simp;omega,Bool.and_false] at ht
    have HF:=Lib.hid ht
    clear ht HT
    go_wp2_with fail
    go_roundw
    case rel=>exact ⟨i+1,by omega,.inl (by omega),by go_num,by rw [HF.out],hb2⟩
    case measure=>simp [intOf];omega
   ·have q9:decide (0≤cv)=false:=by simpa using hcv
    have ht:=HT.out
    rw [show decide (cv < 0)=true by simp;omega,Bool.and_true] at ht
    have HF:=Lib.hid ht
    clear ht HT
    go_wp2_with fail
    go_roundw
    case rel=>exact ⟨i+1,by omega,.inl (by omega),by go_num,by rw [HF.out],hb2⟩
    case measure=>simp [intOf];omega
  ·have hlen:ms.length≤i:=by omega
   rw [List.take_of_length_le hlen]
   cases hasc:ascM ms with
   | true=>
    obtain rfl:=E0'.out hasc
    clear E4' E5' hasc
    go_wp2_with fail
    go_ret
    exact ⟨rfl,hbr⟩
   | false=>
    have E4'':=Lib.hid (E4'.out hasc)
    have E5'':=Lib.hid (E5'.out hasc)
    clear E0' E4' E5' hasc hlen
    have B2:Below wr.heap.size wr (wr.alloc (.map #[] 0)):=(Below.refl _ _).alloc (Nat.le_refl _) _
    have M2:=MapIs.made Tryz.prog 179 mlit mok wr
    have s2:(wr.alloc (.map #[] 0)).heap.size=wr.heap.size+1:=by simp
    have W2E:∃W2,wr.alloc (.map #[] 0)=W2:=⟨_,rfl⟩
    have HAW:=Lib.hid (HA.out.below hbr)
    obtain ⟨W5,rfl⟩:∃W5:World,W5=wr:=⟨_,rfl⟩
    go_wp2_with fail
    obtain ⟨W2,hW2⟩:=W2E
    rw [hW2] at B2 M2 s2 ⊢
    clear hW2
    have HM2:=Lib.hid M2
    clear M2
    go_loopw [35] (fun u wr=>∃i:Nat,i≤ms.length∧u=.int .i64 i∧(kms ms i).Nodup∧MapIs Tryz.prog 179 mlit mok wr W5.heap.size i (setM (kms ms i))∧Below W5.heap.size W5 wr∧W5.heap.size < wr.heap.size) (fun u _=>ms.length - (intOf u).toNat)
    case atStart=>exact ⟨0,Nat.zero_le _,rfl,by simp [kms],HM2.out.ext (fun x _=>by simp [kms,setM]),B2,by omega⟩
    case round=>
     obtain ⟨i,hi,rfl,hnd,hM,hb6,hs6⟩:=hrel
     have HND:=Lib.hid hnd;have HM:=Lib.hid hM
     clear hnd hM HM2
     by_cases hlt:i < ms.length
     ·obtain ⟨b1,o1,rfl,hbl,hcell⟩:=(HAW.out.below hb6).at hlt
      obtain ⟨C,cc,c0,c1,c2,_,_⟩:=hcell i hlt
      obtain ⟨ok1,_,ok3⟩:=OK.out i hlt
      have HKK:=Lib.hid (key_mok ok1 ok3)
      have HD:=Lib.hid (fun h=>E5''.out (kms_dup hlt h))
      have HN:=Lib.hid (fun h=>kms_nodup hlt HND.out h)
      have HE:=Lib.hid (kms_succ hlt)
      have KO:=Lib.hid (fun W=>mapKeyOf_any ms[i] (.slice C ms[i].to.length cc) W)
      clear hcell ok1 ok3
      generalize keyM ms[i]=kx at *
      generalize ms[i]=mi at *
      obtain ⟨mf,mt,mg⟩:=mi
      dsimp only at *
      have Ba:Below wr.heap.size wr (wr.alloc (.cells #[.int .i64 mf,.slice C mt.length cc,.string mg] 63)):=(Below.refl _ _).alloc (Nat.le_refl _) _
      have x0:(wr.alloc (.cells #[.int .i64 mf,.slice C mt.length cc,.string mg] 63)).cell? ⟨wr.heap.size,0,none⟩=some (.int .i64 mf):=by simp
      have x1:(wr.alloc (.cells #[.int .i64 mf,.slice C mt.length cc,.string mg] 63)).cell? ⟨wr.heap.size,1,none⟩=some (.slice C mt.length cc):=by simp
      have x2:(wr.alloc (.cells #[.int .i64 mf,.slice C mt.length cc,.string mg] 63)).cell? ⟨wr.heap.size,2,none⟩=some (.string mg):=by simp
      have sa:(wr.alloc (.cells #[.int .i64 mf,.slice C mt.length cc,.string mg] 63)).heap.size=wr.heap.size+1:=by simp
      have WaE:∃Wa,(wr.alloc (.cells #[.int .i64 mf,.slice C mt.length cc,.string mg] 63))=Wa:=⟨_,rfl⟩
      go_wp2_with fail
      obtain ⟨Wa,hWa⟩:=WaE
      rw [hWa] at Ba x0 x1 x2 sa ⊢
      clear hWa c0 c1 c2
      with_reducible refine (KO.out Wa).mono ?_
      rintro e Wb ⟨rfl,hbb⟩
      have hxa:wr.heap.size < Wa.heap.size:=by omega
      have y0:=(hbb.cell (p:=⟨wr.heap.size,0,none⟩) hxa).trans x0
      have y1:=(hbb.cell (p:=⟨wr.heap.size,1,none⟩) hxa).trans x1
      have y2:=(hbb.cell (p:=⟨wr.heap.size,2,none⟩) hxa).trans x2
      have sb:=hbb.size
      have Bw:=Ba.trans (hbb.mono Ba.size)
      have HMB:=Lib.hid (HM.out.below Bw)
      have hb7:=hb6.trans (Bw.mono hb6.size)
      clear x0 x1 x2
      by_cases hin:kx ∈ kms ms i
      ·have HV:=Lib.hid (setM_yes hin)
       obtain rfl:=HD.out hin
       clear HN HD hin
       go_wp2_with (at_lookup;refine wpList_look rfl _ _ 177 rfl HMB.out law_mkey Tryz.underlying177 (zero_boolM _) rfl rfl HKK.out (mkey_some HKK.out) ?_;rw [HV.out])
       go_ret
       exact ⟨rfl,hbr.trans (hb7.mono hbr.size)⟩
      ·have HV:=Lib.hid (setM_no hin)
       have HP:=Lib.hid (fun x=>setM_put (kms ms i) kx x)
       have HQ:=Lib.hid (HN.out hin)
       clear HN HD hin
       go_wp2_with (at_lookup;refine wpList_look rfl _ _ 177 rfl HMB.out law_mkey Tryz.underlying177 (zero_boolM _) rfl rfl HKK.out (mkey_some HKK.out) ?_;rw [HV.out])
       with_reducible refine (KO.out Wb).mono ?_
       rintro e Wc ⟨rfl,hbc⟩
       have HMC:=Lib.hid (HMB.out.below hbc)
       have hb8:=hb7.trans (hbc.mono hb7.size)
       have sc:=hbc.size
       clear y0 y1 y2 HMB
       go_wp2_with (at_mapUpdate;refine wpList_mput rfl _ _ _ 177 rfl HMC.out law_mkey Tryz.underlying177 (by unfold maxLen;omega) rfl rfl rfl HKK.out (mkey_some HKK.out) (fun y hy e=>mlit_inj hy HKK.out e) ?_;intro w9 hM9 hg9;have HM9:=Lib.hid hM9;have HG9:=Lib.hid hg9;have sg:=hg9.size;clear hM9 hg9)
       go_roundw
       case rel=>exact ⟨i+1,by omega,by go_num,HQ.out,by rw [HE.out];exact HM9.out.ext (fun x _=>HP.out x),below_grown hb8 HG9.out (Nat.le_refl _) hb8.size,by omega⟩
       case measure=>simp [intOf];omega
     ·have hnd:=HND.out
      unfold kms at hnd
      rw [List.take_of_length_le (show ms.length≤i by omega)] at hnd
      obtain rfl:=E4''.out hnd
      clear hnd HND
      go_wp2_with fail
      go_ret
      exact ⟨rfl,hbr.trans (hb6.mono hbr.size)⟩
end Go.Proofs.YtijgbonhjcblcaaGreatDoor
namespace Go.Proofs.YtijgbonhjcblcaaGreatDoor
open Go.RowKit Go.Maps Go.WideMaps
theorem refCodes_any (m:Mp) (C:Option Addr) (cc:Nat) (w:World) (hC:Ints w C m.to) (hz:m.to.length≤1048576) :
  Calls Tryz.prog 128 #[.agg #[.int .i64 m.frm,.slice C m.to.length cc,.string m.tag]] w (RetBool (!mpBad m) w):=by
 have M0:=Lib.hid (mpBad_from (m:=m))
 have M1:=Lib.hid (fun k hk h=>mpBad_to (m:=m) (k:=k) hk h)
 have M2:=Lib.hid (mpBad_no (m:=m))
 generalize mpBad m=bd at *
 obtain ⟨mf,mt,mg⟩:=m
 dsimp only at *
 have Ba:Below w.heap.size w (w.alloc (.cells #[.int .i64 mf,.slice C mt.length cc,.string mg] 63)):=(Below.refl _ _).alloc (Nat.le_refl _) _
 have HC:=Lib.hid (hC.below Ba)
 have e0:(w.alloc (.cells #[.int .i64 mf,.slice C mt.length cc,.string mg] 63)).cell? ⟨w.heap.size,0,none⟩=some (.int .i64 mf):=by simp
 have e1:(w.alloc (.cells #[.int .i64 mf,.slice C mt.length cc,.string mg] 63)).cell? ⟨w.heap.size,1,none⟩=some (.slice C mt.length cc):=by simp
 have sa:(w.alloc (.cells #[.int .i64 mf,.slice C mt.length cc,.string mg] 63)).heap.size=w.heap.size+1:=by simp
 have WaE:∃Wa,(w.alloc (.cells #[.int .i64 mf,.slice C mt.length cc,.string mg] 63))=Wa:=⟨_,rfl⟩
 clear hC
 go_enter Tryz.func128,Tryz.ntmps128
 go_wp2_with fail
 obtain ⟨Wa,hWa⟩:=WaE
 rw [hWa] at Ba HC e0 e1 sa ⊢
 clear hWa
 go_loop [3] (fun u=>∃k:Nat,k≤mt.length∧u=.int .i64 k∧(∀t,(ht:t < mt.length)→t < k→inR 0 1114111 mt[t]=true)) (fun u=>mt.length - (intOf u).toNat)
 case atStart=>exact ⟨0,Nat.zero_le _,rfl,fun t _ h=>by omega⟩
 case round=>
  obtain ⟨k,hk,rfl,hok⟩:=hrel
  have HOK:=Lib.hid hok
  clear hok
  by_cases hltk:k < mt.length
  ·obtain ⟨b2,o2,rfl,hc2⟩:=HC.out.at hltk
   have d0:=hc2 k hltk
   have HBK:=Lib.hid (fun h=>M1.out k hltk h)
   have HNK:=Lib.hid (fun h=>all_up (P:=fun z=>inR 0 1114111 z=true) hltk HOK.out h)
   clear hc2
   generalize mt[k]=z at *
   cases hvz:inR 0 1114111 z with
   | false=>
    obtain rfl:=HBK.out hvz
    go_wp2_with (go_at_call 80;refine (refValid_any z _).mono ?_;rw [hvz];rintro e w' ⟨rfl,rfl⟩)
    go_ret
    exact ⟨rfl,Ba⟩
   | true=>
    have HQ:=Lib.hid (HNK.out hvz)
    go_wp2_with (go_at_call 80;refine (refValid_any z _).mono ?_;rw [hvz];rintro e w' ⟨rfl,rfl⟩)
    go_round
    case rel=>exact ⟨k+1,by omega,by go_num,HQ.out⟩
    case measure=>simp [intOf];omega
  ·cases hv:inR 0 1114111 mf with
   | false=>
    obtain rfl:=M0.out hv
    go_wp2_with (go_at_call 80;refine (refValid_any mf _).mono ?_;rw [hv];rintro e w' ⟨rfl,rfl⟩)
    go_ret
    exact ⟨rfl,Ba⟩
   | true=>
    obtain rfl:=M2.out hv (fun t ht=>HOK.out t ht (by omega))
    go_wp2_with (go_at_call 80;refine (refValid_any mf _).mono ?_;rw [hv];rintro e w' ⟨rfl,rfl⟩)
    go_ret
    exact ⟨rfl,Ba⟩
theorem refBefore_any (a b:Mp) (va vb:Value) (w:World) :
  Calls Tryz.prog 83 #[.agg #[.int .i64 a.frm,va,.string a.tag],.agg #[.int .i64 b.frm,vb,.string b.tag]] w (RetBool (befM a b) w):=by
 unfold befM bl
 obtain ⟨fa,ta,tga⟩:=a
 obtain ⟨fb,tb,tgb⟩:=b
 dsimp only
 have B0:Below w.heap.size w ((w.alloc (.cells #[.int .i64 fa,va,.string tga] 63)).alloc (.cells #[.int .i64 fb,vb,.string tgb] 63)):=((Below.refl _ _).alloc (Nat.le_refl _) _).alloc (by simp) _
 by_cases h1:fa < fb
 ·have q1:decide (fa < fb)=true:=by simpa using h1
  go_enter Tryz.func83,Tryz.ntmps83
  go_wp2_with fail
  go_ret
  exact ⟨by simp [h1],B0⟩
 ·have q1:decide (fa < fb)=false:=by simpa using h1
  by_cases h2:fa=fb
  ·have q2:(fa==fb)=true:=by simpa using h2
   rw [q1,q2]
   clear h1 h2
   go_enter Tryz.func83,Tryz.ntmps83
   go_wp2_with fail
   go_ret
   exact ⟨rfl,B0⟩
  ·have q2:(fa==fb)=false:=by simpa using h2
   rw [q1,q2]
   go_enter Tryz.func83,Tryz.ntmps83
   go_wp2_with fail
   go_ret
   exact ⟨rfl,B0⟩
section
variable {ms:List Mp}
theorem dup_yes {i k:Nat} (hi:i < ms.length) (hk:k < i) (h:keyM ms[i]=keyM (ms[k]'(by omega))):¬(ms.map keyM).Nodup:=fun hn=>by
 have:=List.pairwise_iff_getElem.1 hn k i (by simp;omega) (by simpa using hi) hk
 simp at this
 exact this h.symm
theorem dup_no (h:∀i,(hi:i < ms.length)→∀k,(hk:k < i)→keyM ms[i]≠keyM (ms[k]'(by omega))):(ms.map keyM).Nodup:=by
 refine List.pairwise_iff_getElem.2 (fun k i hk hi hki=>?_)
 have:=h i (by simpa using hi) k hki
 simp
 exact fun e=>this e.symm
end
def dupM (ms:List Mp):Bool:=!decide (ms.map keyM).Nodup
theorem refTwice_any (A:Option Addr) (n a:Nat) (ms:List Mp) (w:World) (hA:Mps w A ms) (hn:ms.length=n) (hz:MpsSz ms) :
  Calls Tryz.prog 129 #[.slice A n a] w (fun e w'=>e=.returned (.bool (dupM ms))∧Qt w w'):=by
 subst hn
 have HA:=Lib.hid hA
 have hnz:=hz.n
 have DY:=Lib.hid (fun i (hi:i < ms.length) k (hk:k < i) (h:keyM ms[i]=keyM (ms[k]'(by omega)))=>show dupM ms=true by unfold dupM;simpa using dup_yes (i:=i) (k:=k) hi hk h)
 have DN:=Lib.hid (fun h=>show dupM ms=false by unfold dupM;simpa using dup_no (ms:=ms) h)
 generalize dupM ms=R at *
 clear hA hz
 go_enter Tryz.func129,Tryz.ntmps129
 go_wp2_with fail
 go_loopw [3] (fun u wr=>∃i:Nat,i≤ms.length∧u=.int .i64 i∧(∀s,(hs:s < ms.length)→s < i→∀k,(hk:k < s)→keyM ms[s]≠keyM (ms[k]'(by omega)))∧Qt w wr) (fun u _=>ms.length - (intOf u).toNat)
 case atStart=>exact ⟨0,Nat.zero_le _,rfl,fun s _ h=>by omega,Qt.refl _⟩
 case round=>
  obtain ⟨i,hi,rfl,hno,hq⟩:=hrel
  have HNO:=Lib.hid hno
  clear hno
  by_cases hlt:i < ms.length
  ·obtain ⟨wr0,rfl⟩:∃wr0:World,wr0=wr:=⟨_,rfl⟩
   have DYI:=Lib.hid (fun k hk h=>DY.out i hlt k hk h)
   have HUP:=Lib.hid (fun (h:∀k,(hk:k < i)→keyM ms[i]≠keyM (ms[k]'(by omega)))=>show ∀s,(hs:s < ms.length)→s < i+1→∀k,(hk:k < s)→keyM ms[s]≠keyM (ms[k]'(by omega)) from fun s hs hsi=>by
    by_cases e:s < i
    ·exact HNO.out s hs e
    ·obtain rfl:s=i:=by omega
     exact h)
   go_wp2_with fail
   go_loopw [4] (fun u wr=>∃k:Nat,k≤i∧u=.int .i64 k∧(∀t,(ht:t < i)→t < k→keyM ms[i]≠keyM (ms[t]'(by omega)))∧Qt w wr) (fun u _=>i - (intOf u).toNat)
   case atStart=>exact ⟨0,Nat.zero_le _,rfl,fun t _ h=>by omega,hq⟩
   case round=>
    obtain ⟨k,hk,rfl,hnk,hqk⟩:=hrel
    have HNK:=Lib.hid hnk
    clear hnk
    by_cases hltk:k < i
    ·obtain ⟨b1,o1,rfl,hbl,hcell⟩:=(HA.out.below hqk.below).at hlt
     obtain ⟨C,cc,c0,c1,c2,_,_⟩:=hcell i hlt
     obtain ⟨D,dd,d0,d1,d2,_,_⟩:=hcell k (by omega)
     have HY:=Lib.hid (fun h=>DYI.out k hltk h)
     have HN:=Lib.hid (fun (h:keyM ms[i]≠keyM (ms[k]'(by omega)))=>show ∀t,(ht:t < i)→t < k+1→keyM ms[i]≠keyM (ms[t]'(by omega)) from fun t ht htk=>by
      by_cases e:t < k
      ·exact HNK.out t ht e
      ·obtain rfl:t=k:=by omega
       exact h)
     have HKE:=Lib.hid (show keyM ms[i]=keyM (ms[k]'(by omega)) ↔ (ms[i].frm=(ms[k]'(by omega)).frm∧ms[i].tag=(ms[k]'(by omega)).tag) from ⟨fun h=>by injection h with h1 h2;exact ⟨h1,h2⟩,fun h=>by unfold keyM;rw [h.1,h.2]⟩)
     clear hcell c1 d1 HNK
     generalize hXX:keyM ms[i]=X at *
     generalize hYY:keyM (ms[k]'(by omega))=Y at *
     clear hXX hYY
     generalize ms[i]=ma at *
     generalize (ms[k]'(by omega))=mb at *
     obtain ⟨af,al,ag⟩:=ma
     obtain ⟨bf,bl',bg⟩:=mb
     dsimp only at *
     have i1:(0:Int)≤(i:Int):=by omega
     have i2:(i:Int) < (ms.length:Int):=by omega
     have i3:((i:Int)).toNat=i:=by omega
     have k1:(0:Int)≤(k:Int):=by omega
     have k2:(k:Int) < (ms.length:Int):=by omega
     have k3:((k:Int)).toNat=k:=by omega
     by_cases h1:af=bf
     ·have q1:(af==bf)=true:=by simpa using h1
      by_cases h2:ag=bg
      ·have q2:=str_eqT h2
       obtain rfl:=HY.out (HKE.out.2 ⟨h1,h2⟩)
       clear HY HN HKE h1 h2 HUP DYI
       go_wp2_with fail
       go_quiet (fail)
       go_wp2_with fail
       go_ret
       exact ⟨rfl,hqk.drewN _⟩
      ·have q2:=str_eqF h2
       have HQ:=Lib.hid (HN.out (fun e=>h2 (HKE.out.1 e).2))
       clear HY HN HKE h1 h2
       go_wp2_with fail
       go_quiet (fail)
       go_wp2_with fail
       go_roundw
       case rel=>exact ⟨k+1,by omega,by go_num,HQ.out,hqk.drewN _⟩
       case measure=>simp [intOf];omega
     ·have q1:(af==bf)=false:=by simpa using h1
      have HQ:=Lib.hid (HN.out (fun e=>h1 (HKE.out.1 e).1))
      clear HY HN HKE h1
      go_wp2_with fail
      go_quiet (fail)
      go_wp2_with fail
      go_roundw
      case rel=>exact ⟨k+1,by omega,by go_num,HQ.out,hqk.drewN _⟩
      case measure=>simp [intOf];omega
    ·have HQ:=Lib.hid (HUP.out (fun t ht=>HNK.out t ht (by omega)))
     clear HUP DYI HNK
     go_wp2_with fail
     go_roundw
     case rel=>exact ⟨i+1,by omega,by go_num,HQ.out,hqk⟩
     case measure=>simp [intOf];omega
  ·obtain rfl:=DN.out (fun s hs k hk=>HNO.out s hs (by omega) k hk)
   go_wp2_with fail
   go_ret
   exact ⟨rfl,hq⟩
def unErr (ms:List Mp):Int:=if partsErr ms≠0 then partsErr ms else if dupM ms=true then 5 else 0
section
variable {ms:List Mp}
theorem un1 {k:Nat} (hk:k < ms.length) (h:mpBad ms[k]=true):unErr ms=1:=by unfold unErr;rw [parts1 hk h];rfl
theorem un2 (h1:∀t,(ht:t < ms.length)→mpBad ms[t]=false) {k:Nat} (hk:k < ms.length) (h:64 < ms[k].to.length):unErr ms=2:=by unfold unErr;rw [parts2 h1 hk h];rfl
theorem un6 (h1:∀t,(ht:t < ms.length)→mpBad ms[t]=false) (h2:∀t,(ht:t < ms.length)→¬64 < ms[t].to.length) {k:Nat} (hk:k < ms.length) (h:tagBad ms[k]=true):unErr ms=6:=by unfold unErr;rw [parts6 h1 h2 hk h];rfl
theorem un0 (h1:∀t,(ht:t < ms.length)→mpBad ms[t]=false) (h2:∀t,(ht:t < ms.length)→¬64 < ms[t].to.length) (h3:∀t,(ht:t < ms.length)→tagBad ms[t]=false):unErr ms=if dupM ms=true then 5 else 0:=by unfold unErr;rw [parts0 h1 h2 h3];rfl
end
theorem refUnsorted_any (A:Option Addr) (n a:Nat) (ms:List Mp) (w:World) (hA:Mps w A ms) (hn:ms.length=n) (hz:MpsSz ms) :
  Calls Tryz.prog 82 #[.slice A n a] w (RetInt (unErr ms) w):=by
 subst hn
 have HA:=Lib.hid hA
 have TC:=Lib.hid (fun W hb=>refTwice_any A ms.length a ms W (hA.below hb) rfl hz)
 have hnz:=hz.n
 have HZ:=Lib.hid hz.e
 have P1:=Lib.hid (fun k hk h=>un1 (ms:=ms) (k:=k) hk h)
 have P2:=Lib.hid (fun h1 k hk h=>un2 (ms:=ms) h1 (k:=k) hk h)
 have P6:=Lib.hid (fun h1 h2 k hk h=>un6 (ms:=ms) h1 h2 (k:=k) hk h)
 have P0:=Lib.hid (un0 (ms:=ms))
 clear hA hz
 generalize unErr ms=R at *
 go_enter Tryz.func82,Tryz.ntmps82
 go_wp2_with fail
 go_loopw [3] (fun u wr=>∃i:Nat,i≤ms.length∧u=.int .i64 i∧(∀t,(ht:t < ms.length)→t < i→mpBad ms[t]=false)∧Below w.heap.size w wr) (fun u _=>ms.length - (intOf u).toNat)
 case atStart=>exact ⟨0,Nat.zero_le _,rfl,fun t _ h=>by omega,Below.refl _ _⟩
 case round=>
  obtain ⟨i,hi,rfl,hno,hbr⟩:=hrel
  have HNO:=Lib.hid hno
  clear hno
  by_cases hlt:i < ms.length
  ·obtain ⟨b1,o1,rfl,hbl,hcell⟩:=(HA.out.below hbr).at hlt
   obtain ⟨C,cc,c0,c1,c2,hcc,hC⟩:=hcell i hlt
   obtain ⟨z1,z2⟩:=HZ.out i hlt
   have HB:=Lib.hid (fun h=>P1.out i hlt h)
   have HN:=Lib.hid (fun h=>all_up (P:=fun m=>mpBad m=false) hlt HNO.out h)
   have CC:=Lib.hid (refCodes_any ms[i] C cc wr hC z1)
   clear hcell hC
   generalize ms[i]=mi at *
   generalize mpBad mi=bd at *
   obtain ⟨mf,mt,mg⟩:=mi
   dsimp only at *
   go_wp2_with fail
   with_reducible refine CC.out.mono ?_
   rintro e w1 ⟨rfl,hb1⟩
   have hb2:=hbr.trans (hb1.mono hbr.size)
   cases bd with
   | true=>
    obtain rfl:=HB.out rfl
    go_wp2_with fail
    go_ret
    exact ⟨rfl,hb2⟩
   | false=>
    have HQ:=Lib.hid (HN.out rfl)
    go_wp2_with fail
    go_roundw
    case rel=>exact ⟨i+1,by omega,by go_num,HQ.out,hb2⟩
    case measure=>simp [intOf];omega
  ·have H1:=Lib.hid (fun t (ht:t < ms.length)=>HNO.out t ht (by omega))
   clear HNO P1
   obtain ⟨W5,rfl⟩:∃W5:World,W5=wr:=⟨_,rfl⟩
   go_wp2_with fail
   go_loop [4] (fun u=>∃i:Nat,i≤ms.length∧u=.int .i64 i∧(∀t,(ht:t < ms.length)→t < i→¬64 < ms[t].to.length)) (fun u=>ms.length - (intOf u).toNat)
   case atStart=>exact ⟨0,Nat.zero_le _,rfl,fun t _ h=>by omega⟩
   case round=>
    obtain ⟨i,hi,rfl,hno⟩:=hrel
    have HNO:=Lib.hid hno
    clear hno
    by_cases hlt:i < ms.length
    ·obtain ⟨b1,o1,rfl,hbl,hcell⟩:=(HA.out.below hbr).at hlt
     obtain ⟨C,cc,c0,c1,c2,hcc,hC⟩:=hcell i hlt
     obtain ⟨z1,z2⟩:=HZ.out i hlt
     have HB:=Lib.hid (fun h=>P2.out H1.out i hlt h)
     have HN:=Lib.hid (fun h=>all_up (P:=fun m:Mp=>¬64 < m.to.length) hlt HNO.out h)
     clear hcell hC
     generalize ms[i]=mi at *
     obtain ⟨mf,mt,mg⟩:=mi
     dsimp only at *
     by_cases h64:64 < mt.length
     ·have q1:decide ((64:Int) < (mt.length:Int))=true:=by simp;omega
      obtain rfl:=HB.out h64
      go_wp2_with fail
      go_ret
      exact ⟨rfl,hbr⟩
     ·have q1:decide ((64:Int) < (mt.length:Int))=false:=by simp;omega
      have HQ:=Lib.hid (HN.out h64)
      go_wp2_with fail
      go_round
      case rel=>exact ⟨i+1,by omega,by go_num,HQ.out⟩
      case measure=>simp [intOf];omega
    ·have H2:=Lib.hid (fun t (ht:t < ms.length)=>HNO.out t ht (by omega))
     clear HNO P2
     go_wp2_with fail
     go_loop [5] (fun u=>∃i:Nat,i≤ms.length∧u=.int .i64 i∧(∀t,(ht:t < ms.length)→t < i→tagBad ms[t]=false)) (fun u=>ms.length - (intOf u).toNat)
     case atStart=>exact ⟨0,Nat.zero_le _,rfl,fun t _ h=>by omega⟩
     case round=>
      obtain ⟨i,hi,rfl,hno⟩:=hrel
      have HNO:=Lib.hid hno
      clear hno
      by_cases hlt:i < ms.length
      ·obtain ⟨b1,o1,rfl,hbl,hcell⟩:=(HA.out.below hbr).at hlt
       obtain ⟨C,cc,c0,c1,c2,hcc,hC⟩:=hcell i hlt
       obtain ⟨z1,z2⟩:=HZ.out i hlt
       have HB:=Lib.hid (fun h=>P6.out H1.out H2.out i hlt h)
       have HN:=Lib.hid (fun h=>all_up (P:=fun m:Mp=>tagBad m=false) hlt HNO.out h)
       clear hcell hC
       generalize ms[i]=mi at *
       have T0:=Lib.hid (tagBad_empty (m:=mi))
       have T1:=Lib.hid (tagBad_name (m:=mi))
       generalize tagBad mi=tb at *
       obtain ⟨mf,mt,mg⟩:=mi
       dsimp only at *
       by_cases hg:mg.size=0
       ·have g0:mg.toList=[]:=str_nil hg
        have HQ:=Lib.hid (HN.out (T0.out hg))
        clear T0 T1 HB HN
        go_wp2_with fail
        go_round
        case rel=>exact ⟨i+1,by omega,by go_num,HQ.out⟩
        case measure=>simp [intOf];omega
       ·have g0:¬mg.toList=[]:=str_cons hg
        have g1:mg.toList.isEmpty=false:=by simpa using g0
        have hT:=T1.out hg
        cases hnm:nameOk mg with
        | true=>
         rw [hnm] at hT
         have HQ:=Lib.hid (HN.out hT)
         clear hT T0 T1 HB HN
         go_wp2_with (go_at_call 87;refine (Name_any mg _ z2).mono ?_;rw [hnm];rintro e w' ⟨rfl,rfl⟩)
         go_round
         case rel=>exact ⟨i+1,by omega,by go_num,HQ.out⟩
         case measure=>simp [intOf];omega
        | false=>
         rw [hnm] at hT
         obtain rfl:=HB.out hT
         clear hT T0 T1 HB HN
         go_wp2_with (go_at_call 87;refine (Name_any mg _ z2).mono ?_;rw [hnm];rintro e w' ⟨rfl,rfl⟩)
         go_ret
         exact ⟨rfl,hbr⟩
      ·have hR:=P0.out H1.out H2.out (fun t ht=>HNO.out t ht (by omega))
       have HTC:=Lib.hid (TC.out W5 hbr)
       clear TC P0 P6 HNO
       cases hd:dupM ms with
       | true=>
        rw [hd] at hR HTC
        have HR:=Lib.hid hR
        clear hR hd
        go_wp2_with fail
        with_reducible refine HTC.out.mono ?_
        rintro e w1 ⟨rfl,hq⟩
        go_wp2_with fail
        go_ret
        exact ⟨ret_int HR.out.symm,hbr.trans (hq.below.mono hbr.size)⟩
       | false=>
        rw [hd] at hR HTC
        have HR:=Lib.hid hR
        clear hR hd
        go_wp2_with fail
        with_reducible refine HTC.out.mono ?_
        rintro e w1 ⟨rfl,hq⟩
        go_wp2_with fail
        go_ret
        exact ⟨ret_int HR.out.symm,hbr.trans (hq.below.mono hbr.size)⟩
section
variable {ms:List Mp}
theorem unD:dupM ms=!decide (ms.map keyM).Nodup:=rfl
theorem refU (h:unErr ms≠0):mapErr ms=unErr ms:=by
 rw [←refMapErr_eq]
 unfold refMapErr
 unfold unErr at h ⊢
 by_cases h1:partsErr ms=0
 ·simp only [h1,ne_eq,not_true_eq_false,if_false] at h ⊢
  cases hd:dupM ms with
  | true=>
   have:¬(ms.map keyM).Nodup:=by rw [unD] at hd;simpa using hd
   simp [this]
  | false=>rw [hd] at h;simp at h
 ·simp [h1]
theorem refZ (h:unErr ms=0):mapErr ms=if ascM ms then 0 else 4:=by
 rw [←refMapErr_eq]
 unfold refMapErr
 unfold unErr at h
 by_cases h1:partsErr ms=0
 ·simp only [h1,ne_eq,not_true_eq_false,if_false] at h ⊢
  cases hd:dupM ms with
  | true=>rw [hd] at h;simp at h
  | false=>
   have:(ms.map keyM).Nodup:=by rw [unD] at hd;simpa using hd
   simp [this]
 ·simp [h1] at h
theorem refZ0 (h:unErr ms=0) (ha:∀t,(ht:t+1 < ms.length)→cmpM ms[t] ms[t+1] < 0):mapErr ms=0:=by rw [refZ h,ascM_true ha];rfl
theorem refZ4 (h:unErr ms=0) {k:Nat} (hk:k+1 < ms.length) (ha:¬cmpM ms[k] ms[k+1] < 0):mapErr ms=4:=by rw [refZ h,ascM_false hk ha];rfl
end
theorem refMapCheck_any (A:Option Addr) (n a:Nat) (ms:List Mp) (w:World) (hA:Mps w A ms) (hn:ms.length=n) (hz:MpsSz ms) :
  Calls Tryz.prog 35 #[.slice A n a] w (RetInt (mapErr ms) w):=by
 subst hn
 have UC:=Lib.hid (refUnsorted_any A ms.length a ms w hA rfl hz)
 have HA:=Lib.hid hA
 have hnz:=hz.n
 have EU:=Lib.hid (refU (ms:=ms))
 have E0:=Lib.hid (refZ0 (ms:=ms))
 have E4:=Lib.hid (fun h k hk ha=>refZ4 (ms:=ms) h (k:=k) hk ha)
 clear hA hz
 generalize mapErr ms=R at *
 generalize unErr ms=pe at *
 go_enter Tryz.func35,Tryz.ntmps35
 go_wp2_with fail
 with_reducible refine UC.out.mono ?_
 rintro e W1 ⟨rfl,hb1⟩
 clear UC
 by_cases hpe:pe=0
 rotate_left
 ·have q1:(pe != 0)=true:=by simpa using hpe
  obtain rfl:=EU.out hpe
  clear hpe EU E0 E4
  go_wp2_with fail
  go_ret
  exact ⟨rfl,hb1⟩
 have q1:(pe != 0)=false:=by simpa using hpe
 have E0':=Lib.hid (E0.out hpe)
 have E4':=Lib.hid (E4.out hpe)
 clear EU E0 E4 hpe
 go_wp2_with fail
 go_loopw [4] (fun u wr=>∃i:Nat,1≤i∧(i≤ms.length∨i=1)∧u=.int .i64 i∧(∀t,(ht:t+1 < ms.length)→t+1 < i→cmpM ms[t] ms[t+1] < 0)∧Below w.heap.size w wr) (fun u _=>ms.length - (intOf u).toNat)
 case atStart=>exact ⟨1,by omega,.inr rfl,rfl,fun t _ h=>by omega,hb1⟩
 case round=>
  obtain ⟨i,hi1,hi2,rfl,has,hbr⟩:=hrel
  have HAS:=Lib.hid has
  clear has
  by_cases hlt:i < ms.length
  ·obtain ⟨b1,o1,rfl,hbl,hcell⟩:=(HA.out.below hbr).at hlt
   obtain ⟨C,cc,c0,c1,c2,_,_⟩:=hcell i hlt
   obtain ⟨D,dd,d0,d1,d2,_,_⟩:=hcell (i - 1) (by omega)
   have MC:=Lib.hid (fun W=>refBefore_any (ms[i - 1]'(by omega)) ms[i] (.slice D (ms[i - 1]'(by omega)).to.length dd) (.slice C ms[i].to.length cc) W)
   have BI:=Lib.hid (befM_iff (ms[i - 1]'(by omega)) ms[i])
   have HB:=Lib.hid (show ¬cmpM (ms[i - 1]'(by omega)) ms[i] < 0→R=4 from fun h=>by
    obtain ⟨j,rfl⟩:∃j,i=j+1:=⟨i - 1,by omega⟩
    exact E4'.out j hlt (by first | exact h | exact Int.not_lt.1 h))
   have HUP:=Lib.hid (show cmpM (ms[i - 1]'(by omega)) ms[i] < 0→∀t,(ht:t+1 < ms.length)→t+1 < i+1→cmpM ms[t] ms[t+1] < 0 from fun h t ht hti=>by
    by_cases e:t+1 < i
    ·exact HAS.out t ht e
    ·obtain rfl:i=t+1:=by omega
     exact h)
   clear hcell
   generalize befM (ms[i - 1]'(by omega)) ms[i]=bv at *
   generalize cmpM (ms[i - 1]'(by omega)) ms[i]=cv at *
   generalize (ms[i - 1]'(by omega))=ma at *
   generalize ms[i]=mb at *
   obtain ⟨af,al',ag⟩:=ma
   obtain ⟨bf,bl'',bg⟩:=mb
   dsimp only at *
   generalize al'.length=al at *
   generalize bl''.length=bl' at *
   have i1:(0:Int)≤(i:Int) - 1:=by omega
   have i2:(i:Int) - 1 < (ms.length:Int):=by omega
   have i3:((i:Int) - 1).toNat=i - 1:=by omega
   have i4:(i:Int) < (ms.length:Int):=by omega
   have i5:(0:Int)≤(i:Int):=by omega
   have i6:(1:Int)≤(i:Int):=by omega
   have w1:IntKind.i64.wrap ((i:Int) - 1)=(i:Int) - 1:=IntWalk.i64_in _ (by omega)
   have KS:=Lib.hid (show ∀W',Below wr.heap.size wr W'→W'.cell? ⟨b1,o1+(i - 1)*3,none⟩=some (.int .i64 af)∧W'.cell? ⟨b1,o1+(i - 1)*3+1,none⟩=some (.slice D al dd)∧W'.cell? ⟨b1,o1+(i - 1)*3+2,none⟩=some (.string ag)∧W'.cell? ⟨b1,o1+i*3,none⟩=some (.int .i64 bf)∧W'.cell? ⟨b1,o1+i*3+1,none⟩=some (.slice C bl' cc)∧W'.cell? ⟨b1,o1+i*3+2,none⟩=some (.string bg)∧Below wr.heap.size wr W' from fun W' hb=>⟨(hb.cell (p:=⟨b1,o1+(i - 1)*3,none⟩) hbl).trans d0,(hb.cell (p:=⟨b1,o1+(i - 1)*3+1,none⟩) hbl).trans d1,(hb.cell (p:=⟨b1,o1+(i - 1)*3+2,none⟩) hbl).trans d2,(hb.cell (p:=⟨b1,o1+i*3,none⟩) hbl).trans c0,(hb.cell (p:=⟨b1,o1+i*3+1,none⟩) hbl).trans c1,(hb.cell (p:=⟨b1,o1+i*3+2,none⟩) hbl).trans c2,hb⟩)
   have MC1:=Lib.hid (fun W' (hb:Below wr.heap.size wr W')=>(MC.out W').mono (R':=fun e W'=>e=.returned (.bool bv)∧(W'.cell? ⟨b1,o1+(i - 1)*3,none⟩=some (.int .i64 af)∧W'.cell? ⟨b1,o1+(i - 1)*3+1,none⟩=some (.slice D al dd)∧W'.cell? ⟨b1,o1+(i - 1)*3+2,none⟩=some (.string ag)∧W'.cell? ⟨b1,o1+i*3,none⟩=some (.int .i64 bf)∧W'.cell? ⟨b1,o1+i*3+1,none⟩=some (.slice C bl' cc)∧W'.cell? ⟨b1,o1+i*3+2,none⟩=some (.string bg)∧Below wr.heap.size wr W')) (fun e w' ⟨he,hb'⟩=>⟨he,KS.out w' (hb.trans (hb'.mono hb.size))⟩))
   go_wp2_with fail
   refine wp_region_held_drew (S:=fun W'=>W'.cell? ⟨b1,o1+(i - 1)*3,none⟩=some (.int .i64 af)∧W'.cell? ⟨b1,o1+(i - 1)*3+1,none⟩=some (.slice D al dd)∧W'.cell? ⟨b1,o1+(i - 1)*3+2,none⟩=some (.string ag)∧W'.cell? ⟨b1,o1+i*3,none⟩=some (.int .i64 bf)∧W'.cell? ⟨b1,o1+i*3+1,none⟩=some (.slice C bl' cc)∧W'.cell? ⟨b1,o1+i*3+2,none⟩=some (.string bg)∧Below wr.heap.size wr W') (by kernel_rfl) (KS.out _ (Below.refl _ _).drew) (fun hHeld=>?_)
   refine tK 0 16 ?_
   refine tK 1 17 ?_
   refine tK 2 18 ?_
   refine tK 3 19 ?_
   refine tK 4 20 ?_
   refine tK 5 21 ?_
   refine tK 6 22 ?_
   refine tK 7 23 ?_
   refine tK 8 24 ?_
   refine qK 9 25 (MC1.out _ hHeld.2.2.2.2.2.2) ?_
   clear hHeld
   intro W3 hHeld
   refine tK 10 26 ?_
   refine wpAnyH_done (by kernel_rfl) ?_ _
   have Bp:=hHeld.2.2.2.2.2.2
   have hb2:=hbr.trans (Bp.mono hbr.size)
   clear hHeld c0 c1 c2 d0 d1 d2 KS MC MC1 i1 i2 i3 i4 i5 i6 w1
   cases bv with
   | true=>
    have HQ:=Lib.hid (HUP.out (of_decide_eq_true BI.out.symm))
    clear BI HUP HB
    go_wp2_with fail
    go_roundw
    case rel=>exact ⟨i+1,by omega,.inl (by omega),by go_num,HQ.out,hb2⟩
    case measure=>simp [intOf];omega
   | false=>
    obtain rfl:=HB.out (by have h9:=of_decide_eq_false BI.out.symm;omega)
    clear BI HUP HB
    go_wp2_with fail
    go_ret
    exact ⟨rfl,hb2⟩
  ·obtain rfl:=E0'.out (fun t ht=>HAS.out t ht (by omega))
   go_wp2_with fail
   go_ret
   exact ⟨rfl,hbr⟩
def RetGet (r:Option (List Int)) (w:World) (e:Ending) (w':World):Prop:=∃E d,e=.returned (.tuple #[.slice E (r.getD []).length d,.bool r.isSome])∧(r.getD []).length≤d∧Ints w' E (r.getD [])∧Below w.heap.size w w'
def smallM (ms:List Mp):Bool:=decide (ms.length≤20)&&ms.all (fun m=>decide (m.to.length≤65)&&decide (m.tag.size≤40))
theorem smallM_sz {ms:List Mp} (h:smallM ms=true):MpsSz ms∧ms.length≤20∧∀m ∈ ms,m.to.length≤65∧m.tag.size≤40:=by
 simp only [smallM,Bool.and_eq_true,decide_eq_true_eq,List.all_eq_true] at h
 refine ⟨⟨by omega,fun i hi=>?_⟩,h.1,h.2⟩
 have:=h.2 ms[i] (List.getElem_mem hi)
 omega
theorem smallM1 {ms:List Mp} (h:¬ms.length≤20):smallM ms=false:=by simp [smallM];omega
theorem smallM2 {ms:List Mp} {k:Nat} (hk:k < ms.length) (h:¬(ms[k].to.length≤65∧ms[k].tag.size≤40)):smallM ms=false:=by
 cases e:smallM ms with
 | false=>rfl
 | true=>exact absurd ((smallM_sz e).2.2 ms[k] (List.getElem_mem hk)) h
theorem smallM3 {ms:List Mp} (h1:ms.length≤20) (h:∀t,(ht:t < ms.length)→ms[t].to.length≤65∧ms[t].tag.size≤40):smallM ms=true:=by
 simp only [smallM,Bool.and_eq_true,decide_eq_true_eq,List.all_eq_true]
 refine ⟨h1,fun m hm=>?_⟩
 obtain ⟨t,ht,rfl⟩:=List.getElem_of_mem hm
 exact h t ht
theorem smallM_any (A:Option Addr) (n a:Nat) (ms:List Mp) (w:World) (hA:Mps w A ms) (hn:ms.length=n) (hl:n≤9223372036854775807) (hs:∀i,(hi:i < ms.length)→ms[i].to.length≤9223372036854775807∧ms[i].tag.size≤9223372036854775807) :
  Calls Tryz.prog 59 #[.slice A n a] w (fun e w'=>e=.returned (.bool (smallM ms))∧w=w'):=by
 subst hn
 have HA:=Lib.hid hA
 have HS:=Lib.hid hs
 have S1:=Lib.hid (smallM1 (ms:=ms))
 have S2:=Lib.hid (fun k hk h=>smallM2 (ms:=ms) (k:=k) hk h)
 have S3:=Lib.hid (smallM3 (ms:=ms))
 generalize smallM ms=R at *
 clear hA hs
 go_enter Tryz.func59,Tryz.ntmps59
 go_wp2_with fail
 go_loop [3] (fun u=>∃i:Nat,i≤ms.length∧i≤30∧u=.int .i64 i∧(∀t,(ht:t < ms.length)→t < i→ms[t].to.length≤65∧ms[t].tag.size≤40)) (fun u=>ms.length - (intOf u).toNat)
 case atStart=>exact ⟨0,Nat.zero_le _,by omega,rfl,fun t _ h=>by omega⟩
 case round=>
  obtain ⟨i,hi,hi30,rfl,hno⟩:=hrel
  have HNO:=Lib.hid hno
  clear hno
  by_cases hlt:i < ms.length
  ·by_cases h30:i < 30
   ·obtain ⟨b1,o1,rfl,hbl,hcell⟩:=HA.out.at hlt
    obtain ⟨C,cc,c0,c1,c2,hcc,hC⟩:=hcell i hlt
    obtain ⟨z1,z2⟩:=HS.out i hlt
    have HB:=Lib.hid (fun h=>S2.out i hlt h)
    have HN:=Lib.hid (fun h=>all_up (P:=fun m:Mp=>m.to.length≤65∧m.tag.size≤40) hlt HNO.out h)
    have q30:decide ((i:Int) < 30)=true:=by simp;omega
    clear hcell hC
    generalize ms[i]=mi at *
    obtain ⟨mf,mt,mg⟩:=mi
    dsimp only at *
    by_cases h1:mt.length≤65
    ·have q1:decide ((65:Int) < (mt.length:Int))=false:=by simp;omega
     by_cases h2:mg.size≤40
     ·have q2:decide ((40:Int) < (mg.size:Int))=false:=by simp;omega
      have HQ:=Lib.hid (HN.out ⟨h1,h2⟩)
      clear HB HN
      go_wp2_with fail
      go_round
      case rel=>exact ⟨i+1,by omega,by omega,by go_num,HQ.out⟩
      case measure=>simp [intOf];omega
     ·have q2:decide ((40:Int) < (mg.size:Int))=true:=by simp;omega
      obtain rfl:=HB.out (fun h=>h2 h.2)
      clear HB HN
      go_wp2_with fail
      go_ret
      exact ⟨rfl,rfl⟩
    ·have q1:decide ((65:Int) < (mt.length:Int))=true:=by simp;omega
     obtain rfl:=HB.out (fun h=>h1 h.1)
     clear HB HN
     go_wp2_with fail
     go_ret
     exact ⟨rfl,rfl⟩
   ·obtain rfl:=S1.out (by omega)
    have q30:decide ((i:Int) < 30)=false:=by simp;omega
    have q20:decide (ms.length≤20)=false:=by simp;omega
    have q21:decide ((ms.length:Int)≤20)=false:=by simp;omega
    go_wp2_with fail
    go_ret
    exact ⟨by simp;try omega,rfl⟩
  ·by_cases h20:ms.length≤20
   ·obtain rfl:=S3.out h20 (fun t ht=>HNO.out t ht (by omega))
    have q20:decide (ms.length≤20)=true:=by simpa using h20
    have q21:decide ((ms.length:Int)≤20)=true:=by simp;omega
    go_wp2_with fail
    go_ret
    exact ⟨by simp;try omega,rfl⟩
   ·obtain rfl:=S1.out h20
    have q20:decide (ms.length≤20)=false:=by simpa using h20
    have q21:decide ((ms.length:Int)≤20)=false:=by simp;omega
    go_wp2_with fail
    go_ret
    exact ⟨by simp;try omega,rfl⟩
end Go.Proofs.YtijgbonhjcblcaaGreatDoor
