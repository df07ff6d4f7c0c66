/- Texts that are merged into one file: TxText, TxSame. -/
import Derived.Test.YtkhmjidaeliccaaGreatDoorB03
import Derived.Test.YtkhmjidaeliccaaGreatDoorB13
import Derived.Test.YtkhmjidaeliccaaGreatDoorB18
import Derived.Test.YtkhmjidaeliccaaGreatDoorB24
import Derived.Deep.Cut
import Derived.BigQuiet
set_option maxRecDepth 100000
set_option maxHeartbeats 51200000
namespace Go.Proofs.YtkhmjidaeliccaaGreatDoor
open Go.RowKit Go.Maps Go.WideMaps Go.Shelf Tl Pa
def RetTxt (l:List Tlr) (w:World) (e:Ending) (w':World):Prop:=e=.returned (.tuple #[.string (strOfNums (if txtErr l=0 then txtI l else [])),.int .i64 (txtErr l)])∧Below w.heap.size w w'
theorem txtErr_1 {l:List Tlr} {t:Tlr} (ht:t ∈ l) (h:(rngT t.anc&&rngT t.cds)=false):txtErr l=1:=by
 unfold txtErr
 rw [if_neg]
 intro e
 rw [List.all_eq_true] at e
 rw [e t ht] at h
 cases h
theorem txtErr_8 {l:List Tlr} {t:Tlr} (ha:∀t ∈ l,(rngT t.anc&&rngT t.cds)=true) (ht:t ∈ l) (h:kndT t=false):txtErr l=8:=by
 unfold txtErr
 rw [if_pos (List.all_eq_true.2 ha),if_neg]
 intro e
 rw [List.all_eq_true] at e
 rw [e t ht] at h
 cases h
theorem txtErr_ok {l:List Tlr} (ha:∀t ∈ l,(rngT t.anc&&rngT t.cds)=true) (hk:∀t ∈ l,kndT t=true):txtErr l=0:=by
 unfold txtErr
 rw [if_pos (List.all_eq_true.2 ha),if_pos (List.all_eq_true.2 hk)]
theorem ext_at {P:Tlr→Prop} {l:List Tlr} {k:Nat} (hk:k < l.length) (h:∀j,(hj:j < l.length)→j < k→P l[j]) (hp:P l[k]):∀j,(hj:j < l.length)→j < k+1→P l[j]:=fun j hj h1=>by
 by_cases e:j < k
 ·exact h j hj e
 ·obtain rfl:j=k:=by omega
  exact hp
theorem all_at {P:Tlr→Prop} {l:List Tlr} (h:∀j,(hj:j < l.length)→j < l.length→P l[j]):∀t ∈ l,P t:=fun t ht=>by
 obtain ⟨j,hj,rfl⟩:=List.getElem_of_mem ht
 exact h j hj hj
theorem str_app (a b:List Int):strOfNums (a++b)=strOfNums a++strOfNums b:=by
 apply ByteArray.ext
 rw [ByteArray.data_append]
 simp [strOfNums]
theorem line_str (a c:List Int) (k:Int):(⟨#[40]⟩:ByteArray)++strOfNums (codI a)++⟨#[41,32]⟩++strOfNums (sgnI k)++⟨#[32,40]⟩++strOfNums (codI c)++⟨#[41,10]⟩=strOfNums (40::codI a++([41,32]++(sgnI k++([32,40]++(codI c++[41,10]))))):=by
 have e1:(⟨#[40]⟩:ByteArray)=strOfNums [40]:=rfl
 have e2:(⟨#[41,32]⟩:ByteArray)=strOfNums [41,32]:=rfl
 have e3:(⟨#[32,40]⟩:ByteArray)=strOfNums [32,40]:=rfl
 have e4:(⟨#[41,10]⟩:ByteArray)=strOfNums [41,10]:=rfl
 rw [e1,e2,e3,e4,←str_app,←str_app,←str_app,←str_app,←str_app,←str_app]
 simp only [List.cons_append,List.nil_append,List.append_assoc]
theorem text_any (K:Option Addr) (k:Nat) (l:List Tlr) (w:World) (hK:Tlrs w K l) (hll:l.length≤65536) (hts:∀t ∈ l,t.anc.length≤65536∧t.cds.length≤65536) (hG:LaidG w):Calls Tryz.prog 28 #[.slice K l.length k] w (RetTxt l w):=by
 have HK0:=Lib.hid hK
 have HK:=Lib.hid (fun W (hb:Below w.heap.size w W)=>hK.below hb)
 have HG:=Lib.hid (fun W (hb:Below w.heap.size w W)=>hG.below hb)
 have HTS:=Lib.hid hts
 have HLE:=Lib.hid (txtI_le hts)
 have KR:=Lib.hid (fun P p Q q (t:Tlr) (W:World) hP hQ (ht:t.anc.length≤65536∧t.cds.length≤65536)=>ranged_any P t.anc.length p Q t.cds.length q t W hP hQ rfl rfl (by omega) (by omega))
 have KK:=Lib.hid (fun P a p Q b q (t:Tlr) (W:World)=>known_ok_any P a p Q b q t W)
 unfold RetInt at KR KK
 unfold RetTxt
 obtain ⟨re,hre⟩:∃e,txtErr l=e:=⟨_,rfl⟩
 obtain ⟨rs,hrs⟩:∃s,strOfNums (if txtErr l=0 then txtI l else [])=s:=⟨_,rfl⟩
 have E1:=Lib.hid (show ∀t:Tlr,t ∈ l→(rngT t.anc&&rngT t.cds)=false→re=1∧rs=⟨#[]⟩ from fun t ht h=>by
  have e:=txtErr_1 (l:=l) (t:=t) ht h
  exact ⟨hre.symm.trans e,by rw [←hrs,e];rfl⟩)
 have E8:=Lib.hid (show ∀t:Tlr,(∀t ∈ l,(rngT t.anc&&rngT t.cds)=true)→t ∈ l→kndT t=false→re=8∧rs=⟨#[]⟩ from fun t ha ht h=>by
  have e:=txtErr_8 (l:=l) (t:=t) ha ht h
  exact ⟨hre.symm.trans e,by rw [←hrs,e];rfl⟩)
 have E0:=Lib.hid (show (∀t ∈ l,(rngT t.anc&&rngT t.cds)=true)→(∀t ∈ l,kndT t=true)→re=0∧rs=strOfNums (txtI l) from fun ha hk=>by
  have e:=txtErr_ok (l:=l) ha hk
  exact ⟨hre.symm.trans e,by rw [←hrs,e];rfl⟩)
 rw [hrs,hre]
 clear hre hrs
 have XF:Box (w.alloc (.cells #[.func (Fn.func 73) #[] #[],.func (Fn.func 74) #[] #[]] 119)) w.heap.size 119 [.func (Fn.func 73) #[] #[],.func (Fn.func 74) #[] #[]]:=Box.new w 119 [.func (Fn.func 73) #[] #[],.func (Fn.func 74) #[] #[]] rfl
 have BF:Below w.heap.size w (w.alloc (.cells #[.func (Fn.func 73) #[] #[],.func (Fn.func 74) #[] #[]] 119)):=(Below.refl _ _).alloc (Nat.le_refl _) _
 have WE:=Lib.hid (show ∃V,(w.alloc (.cells #[.func (Fn.func 73) #[] #[],.func (Fn.func 74) #[] #[]] 119))=V from ⟨_,rfl⟩)
 clear hK hG hts
 go_enter Tryz.func28,Tryz.ntmps28
 go_upto_region 2 with (fail)
 obtain ⟨V,hV⟩:=WE.out
 rw [hV] at XF BF ⊢
 clear hV WE
 have HXF:=Lib.hid XF
 have HBF:=Lib.hid BF
 clear XF BF
 go_wp2_with fail
 go_loopw [19] (fun u wr=>∃i:Int,(i=0∨i=1∨i=2)∧u=.int .i64 i∧Hid (0 < i→∀t ∈ l,(rngT t.anc&&rngT t.cds)=true)∧Hid (1 < i→∀t ∈ l,kndT t=true)∧Box wr w.heap.size 119 [.func (Fn.func 73) #[] #[],.func (Fn.func 74) #[] #[]]∧Below w.heap.size w wr) (fun u _=>2 - (intOf u).toNat)
 case atStart=>exact ⟨0,.inl rfl,rfl,Lib.hid (fun h=>absurd h (by omega)),Lib.hid (fun h=>absurd h (by omega)),HXF.out,HBF.out⟩
 case round=>
  obtain ⟨i,hi,rfl,h1,h2,hX,hB⟩:=hrel
  have HX:=Lib.hid hX
  have HB:=Lib.hid hB
  clear hX hB HXF HBF
  rcases hi with rfl | rfl | rfl
  ·have cx:=HX.out.cell (i:=0) rfl
   clear h1 h2
   go_wp2_with fail
   go_loopw [25] (fun u wr=>∃k:Nat,k≤l.length∧u=.int .i64 k∧Hid (∀j,(hj:j < l.length)→j < k→(fun t:Tlr=>(rngT t.anc&&rngT t.cds)=true) l[j])∧Box wr w.heap.size 119 [.func (Fn.func 73) #[] #[],.func (Fn.func 74) #[] #[]]∧Below w.heap.size w wr) (fun u _=>l.length - (intOf u).toNat)
   case atStart=>exact ⟨0,Nat.zero_le _,rfl,Lib.hid (fun j _ h=>absurd h (by omega)),HX.out,HB.out⟩
   case round=>
    obtain ⟨k,hk,rfl,hall,hX,hB⟩:=hrel
    have HX2:=Lib.hid hX
    have HB2:=Lib.hid hB
    clear hX hB
    by_cases hlt:k < l.length
    ·obtain ⟨kb,ko,rfl,hkb,hat⟩:=(HK.out wr HB2.out).at hlt
     obtain ⟨P,pk,Q,qk,t0,t1,t2,t3,hP,hQ⟩:=hat k hlt
     have HTI:=Lib.hid (HTS.out _ (List.getElem_mem hlt))
     have HMI:=Lib.hid (List.getElem_mem hlt)
     have HEX:=Lib.hid (fun h=>ext_at (P:=fun t:Tlr=>(rngT t.anc&&rngT t.cds)=true) hlt hall.out h)
     have hkl:(k:Int) < (l.length:Int):=by omega
     clear hat hall
     generalize l[k]=t at *
     have XA:Box (wr.alloc (.cells #[.slice P t.anc.length pk,.slice Q t.cds.length qk,.int .i64 t.lvl,.bool t.bef] 35)) wr.heap.size 35 [.slice P t.anc.length pk,.slice Q t.cds.length qk,.int .i64 t.lvl,.bool t.bef]:=Box.new wr 35 [.slice P t.anc.length pk,.slice Q t.cds.length qk,.int .i64 t.lvl,.bool t.bef] rfl
     have BA:Below wr.heap.size wr (wr.alloc (.cells #[.slice P t.anc.length pk,.slice Q t.cds.length qk,.int .i64 t.lvl,.bool t.bef] 35)):=(Below.refl _ _).alloc (Nat.le_refl _) _
     have WE2:=Lib.hid (show ∃Wa,wr.alloc (.cells #[.slice P t.anc.length pk,.slice Q t.cds.length qk,.int .i64 t.lvl,.bool t.bef] 35)=Wa from ⟨_,rfl⟩)
     have hPa:=hP.below BA
     have hQa:=hQ.below BA
     go_upto_region 7 with (fail)
     obtain ⟨Wa,hWa⟩:=WE2.out
     rw [hWa] at XA BA hPa hQa ⊢
     clear hWa WE2 t0 t1 t2 t3 hP hQ
     have a0:=XA.cell (i:=0) rfl
     have a1:=XA.cell (i:=1) rfl
     have a2:=XA.cell (i:=2) rfl
     have a3:=XA.cell (i:=3) rfl
     have KC:=Lib.hid (KR.out P pk Q qk t Wa hPa hQa HTI.out)
     have HX3:=Lib.hid (HX2.out.below BA HX2.out.lt)
     have HB3:=Lib.hid (HB2.out.trans (BA.mono HB2.out.size))
     clear XA BA hPa hQa
     go_wp2_with fail
     with_reducible refine KC.out.mono ?_
     rintro e W2 ⟨rfl,hb2⟩
     have HX4:=Lib.hid (HX3.out.below hb2 HX3.out.lt)
     have HB4:=Lib.hid (HB3.out.trans (hb2.mono HB3.out.size))
     clear hb2 KC a0 a1 a2 a3
     cases hq:(rngT t.anc&&rngT t.cds) with
     | true=>
      have HN:=Lib.hid (HEX.out hq)
      clear hq HEX
      go_wp2_with fail
      go_roundw
      case rel=>exact ⟨k+1,by omega,by go_num,Lib.hid HN.out,HX4.out,HB4.out⟩
      case measure=>(try simp [intOf]) <;> (try omega)
     | false=>
      have HE:=Lib.hid (E1.out t HMI.out hq)
      clear hq HEX
      go_wp2_with fail
      go_ret2
      obtain ⟨rfl,rfl⟩:=HE.out
      exact ⟨rfl,HB4.out⟩
    ·obtain rfl:k=l.length:=by omega
     have HALL:=Lib.hid (all_at (P:=fun t:Tlr=>(rngT t.anc&&rngT t.cds)=true) hall.out)
     clear hall
     go_wp2_with fail
     go_roundw
     case rel=>exact ⟨1,by omega,by go_num,Lib.hid (fun _=>HALL.out),Lib.hid (fun h=>absurd h (by omega)),HX2.out,HB2.out⟩
     case measure=>(try simp [intOf]) <;> (try omega)
  ·have cx:=HX.out.cell (i:=1) rfl
   have HA:=Lib.hid (h1.out (by omega))
   clear h1 h2
   go_wp2_with fail
   go_loopw [25] (fun u wr=>∃k:Nat,k≤l.length∧u=.int .i64 k∧Hid (∀j,(hj:j < l.length)→j < k→(fun t:Tlr=>kndT t=true) l[j])∧Box wr w.heap.size 119 [.func (Fn.func 73) #[] #[],.func (Fn.func 74) #[] #[]]∧Below w.heap.size w wr) (fun u _=>l.length - (intOf u).toNat)
   case atStart=>exact ⟨0,Nat.zero_le _,rfl,Lib.hid (fun j _ h=>absurd h (by omega)),HX.out,HB.out⟩
   case round=>
    obtain ⟨k,hk,rfl,hall,hX,hB⟩:=hrel
    have HX2:=Lib.hid hX
    have HB2:=Lib.hid hB
    clear hX hB
    by_cases hlt:k < l.length
    ·obtain ⟨kb,ko,rfl,hkb,hat⟩:=(HK.out wr HB2.out).at hlt
     obtain ⟨P,pk,Q,qk,t0,t1,t2,t3,hP,hQ⟩:=hat k hlt
     have HTI:=Lib.hid (HTS.out _ (List.getElem_mem hlt))
     have HMI:=Lib.hid (List.getElem_mem hlt)
     have HEX:=Lib.hid (fun h=>ext_at (P:=fun t:Tlr=>kndT t=true) hlt hall.out h)
     have hkl:(k:Int) < (l.length:Int):=by omega
     clear hat hall
     generalize l[k]=t at *
     have XA:Box (wr.alloc (.cells #[.slice P t.anc.length pk,.slice Q t.cds.length qk,.int .i64 t.lvl,.bool t.bef] 35)) wr.heap.size 35 [.slice P t.anc.length pk,.slice Q t.cds.length qk,.int .i64 t.lvl,.bool t.bef]:=Box.new wr 35 [.slice P t.anc.length pk,.slice Q t.cds.length qk,.int .i64 t.lvl,.bool t.bef] rfl
     have BA:Below wr.heap.size wr (wr.alloc (.cells #[.slice P t.anc.length pk,.slice Q t.cds.length qk,.int .i64 t.lvl,.bool t.bef] 35)):=(Below.refl _ _).alloc (Nat.le_refl _) _
     have WE2:=Lib.hid (show ∃Wa,wr.alloc (.cells #[.slice P t.anc.length pk,.slice Q t.cds.length qk,.int .i64 t.lvl,.bool t.bef] 35)=Wa from ⟨_,rfl⟩)
     have hPa:=hP.below BA
     have hQa:=hQ.below BA
     go_upto_region 7 with (fail)
     obtain ⟨Wa,hWa⟩:=WE2.out
     rw [hWa] at XA BA hPa hQa ⊢
     clear hWa WE2 t0 t1 t2 t3 hP hQ
     have a0:=XA.cell (i:=0) rfl
     have a1:=XA.cell (i:=1) rfl
     have a2:=XA.cell (i:=2) rfl
     have a3:=XA.cell (i:=3) rfl
     have KC:=Lib.hid (KK.out P t.anc.length pk Q t.cds.length qk t Wa)
     have HX3:=Lib.hid (HX2.out.below BA HX2.out.lt)
     have HB3:=Lib.hid (HB2.out.trans (BA.mono HB2.out.size))
     clear XA BA hPa hQa
     go_wp2_with fail
     with_reducible refine KC.out.mono ?_
     rintro e W2 ⟨rfl,hb2⟩
     have HX4:=Lib.hid (HX3.out.below hb2 HX3.out.lt)
     have HB4:=Lib.hid (HB3.out.trans (hb2.mono HB3.out.size))
     clear hb2 KC a0 a1 a2 a3
     cases hq:kndT t with
     | true=>
      have HN:=Lib.hid (HEX.out hq)
      clear hq HEX
      go_wp2_with fail
      go_roundw
      case rel=>exact ⟨k+1,by omega,by go_num,Lib.hid HN.out,HX4.out,HB4.out⟩
      case measure=>(try simp [intOf]) <;> (try omega)
     | false=>
      have HE:=Lib.hid (E8.out t HA.out HMI.out hq)
      clear hq HEX
      go_wp2_with fail
      go_ret2
      obtain ⟨rfl,rfl⟩:=HE.out
      exact ⟨rfl,HB4.out⟩
    ·obtain rfl:k=l.length:=by omega
     have HALL:=Lib.hid (all_at (P:=fun t:Tlr=>kndT t=true) hall.out)
     clear hall
     go_wp2_with fail
     go_roundw
     case rel=>exact ⟨2,by omega,by go_num,Lib.hid (fun _=>HA.out),Lib.hid (fun _=>HALL.out),HX2.out,HB2.out⟩
     case measure=>(try simp [intOf]) <;> (try omega)
  ·have HA:=Lib.hid (h1.out (by omega))
   have HKN:=Lib.hid (h2.out (by omega))
   have HTE:=Lib.hid (E0.out HA.out HKN.out)
   clear h1 h2 HX
   have XS:Box ((wr.alloc (.cells #[.string ⟨#[61]⟩,.string ⟨#[60]⟩,.string ⟨#[60,60]⟩,.string ⟨#[60,60,60]⟩] 121)).alloc (.cells #[.pointer none,.slice none 0 0] 125)) wr.heap.size 121 [.string ⟨#[61]⟩,.string ⟨#[60]⟩,.string ⟨#[60,60]⟩,.string ⟨#[60,60,60]⟩]:=(Box.new wr 121 [.string ⟨#[61]⟩,.string ⟨#[60]⟩,.string ⟨#[60,60]⟩,.string ⟨#[60,60,60]⟩] rfl).below ((Below.refl _ _).alloc (Nat.le_refl _) _) (by simp)
   have HBL:Bld (wr.heap.size+1) (wr.heap.size+1) [] ((wr.alloc (.cells #[.string ⟨#[61]⟩,.string ⟨#[60]⟩,.string ⟨#[60,60]⟩,.string ⟨#[60,60,60]⟩] 121)).alloc (.cells #[.pointer none,.slice none 0 0] 125)):=Bld.new (wr.alloc (.cells #[.string ⟨#[61]⟩,.string ⟨#[60]⟩,.string ⟨#[60,60]⟩,.string ⟨#[60,60,60]⟩] 121)) _ (by simp)
   have BA:Below w.heap.size w ((wr.alloc (.cells #[.string ⟨#[61]⟩,.string ⟨#[60]⟩,.string ⟨#[60,60]⟩,.string ⟨#[60,60,60]⟩] 121)).alloc (.cells #[.pointer none,.slice none 0 0] 125)):=(HB.out.alloc HB.out.size _).alloc (by have:=HB.out.size;simp;omega) _
   have WE2:=Lib.hid (show ∃U,((wr.alloc (.cells #[.string ⟨#[61]⟩,.string ⟨#[60]⟩,.string ⟨#[60,60]⟩,.string ⟨#[60,60,60]⟩] 121)).alloc (.cells #[.pointer none,.slice none 0 0] 125))=U from ⟨_,rfl⟩)
   go_upto_region 14 with (fail)
   obtain ⟨U,hU⟩:=WE2.out
   rw [hU] at XS HBL BA ⊢
   clear hU WE2
   have hsz:=HB.out.size
   obtain ⟨sg,hsg⟩:∃s,wr.heap.size=s:=⟨_,rfl⟩
   rw [hsg] at XS HBL hsz ⊢
   clear hsg
   have HXS:=Lib.hid XS
   have HBD:=Lib.hid HBL
   have HBA:=Lib.hid BA
   clear XS HBL BA HB
   go_wp2_with fail
   go_loopw [40] (fun u wq=>∃i:Nat,i≤l.length∧u=.int .i64 i∧Bld (sg+1) (sg+1) (txtI (l.take i)) wq∧Box wq sg 121 [.string ⟨#[61]⟩,.string ⟨#[60]⟩,.string ⟨#[60,60]⟩,.string ⟨#[60,60,60]⟩]∧Below w.heap.size w wq) (fun u _=>l.length - (intOf u).toNat)
   case atStart=>exact ⟨0,Nat.zero_le _,rfl,HBD.out,HXS.out,HBA.out⟩
   case round=>
    obtain ⟨i,hi,rfl,hbd,hX,hB⟩:=hrel
    have HBD2:=Lib.hid hbd
    have HX2:=Lib.hid hX
    have HB2:=Lib.hid hB
    clear hbd hX hB HBD HXS HBA
    by_cases hlt:i < l.length
    ·obtain ⟨kb,ko,rfl,hkb,hat⟩:=HK0.out.at hlt
     obtain ⟨P,pk,Q,qk,t0,t1,t2,t3,hP,hQ⟩:=hat i hlt
     replace t0:=(HB2.out.cell (p:=⟨kb,ko+i*4,none⟩) hkb).trans t0
     replace t1:=(HB2.out.cell (p:=⟨kb,ko+i*4+1,none⟩) hkb).trans t1
     replace t2:=(HB2.out.cell (p:=⟨kb,ko+i*4+2,none⟩) hkb).trans t2
     replace t3:=(HB2.out.cell (p:=⟨kb,ko+i*4+3,none⟩) hkb).trans t3
     have HTI:=Lib.hid (HTS.out _ (List.getElem_mem hlt))
     have HRA:=Lib.hid (rng_all (Bool.and_eq_true_iff.1 (HA.out _ (List.getElem_mem hlt))).1)
     have HRC:=Lib.hid (rng_all (Bool.and_eq_true_iff.1 (HA.out _ (List.getElem_mem hlt))).2)
     have hkn:=HKN.out _ (List.getElem_mem hlt)
     have HSN:=Lib.hid (txtI_snoc hlt)
     have HL1:=Lib.hid (HLE.out i)
     have HPW:=Lib.hid (fun W (hb:Below w.heap.size w W)=>hP.below hb)
     have HQW:=Lib.hid (fun W (hb:Below w.heap.size w W)=>hQ.below hb)
     have hil:(i:Int) < (l.length:Int):=by omega
     have hlk:∃k:Nat,l[i].lvl=(k:Int)∧k < 4:=by
      unfold kndT at hkn
      simp only [Bool.and_eq_true,decide_eq_true_eq] at hkn
      exact ⟨l[i].lvl.toNat,by omega,by omega⟩
     clear hat hP hQ hkn
     generalize l[i]=t at *
     generalize txtI (l.take i)=R at *
     obtain ⟨R2,hR2⟩:∃R2,txtI (l.take (i+1))=R2:=⟨_,rfl⟩
     rw [hR2] at HSN
     have HRE:=Lib.hid hR2
     clear hR2
     obtain ⟨lk,hlk,hk4⟩:=hlk
     have hk0:(0:Int)≤(lk:Int):=by omega
     have hk4':(lk:Int) < 4:=by omega
     have HSG:=Lib.hid (show ∀W,Box W sg 121 [.string ⟨#[61]⟩,.string ⟨#[60]⟩,.string ⟨#[60,60]⟩,.string ⟨#[60,60,60]⟩]→W.cell? ⟨sg,lk,none⟩=some (.string (strOfNums (sgnI t.lvl))) from fun W h=>by
      rw [hlk]
      rcases show lk=0∨lk=1∨lk=2∨lk=3 by omega with rfl | rfl | rfl | rfl
      ·exact h.cell (i:=0) rfl
      ·exact h.cell (i:=1) rfl
      ·exact h.cell (i:=2) rfl
      ·exact h.cell (i:=3) rfl)
     have HSL:=Lib.hid (sgnI_le t.lvl)
     have HST:=Lib.hid (show stpI t=[38,32]++(befI t.bef++(40::codI t.anc++([41,32]++(sgnI t.lvl++([32,40]++(codI t.cds++[41,10])))))) from rfl)
     have HCA:=Lib.hid (codI_len t.anc)
     have HCC:=Lib.hid (codI_len t.cds)
     have za:(strOfNums (codI t.anc)).size≤458752:=by rw [strOfNums_size];have:=HCA.out;have:=HTI.out;omega
     have zc:(strOfNums (codI t.cds)).size≤458752:=by rw [strOfNums_size];have:=HCC.out;have:=HTI.out;omega
     have zs:(strOfNums (sgnI t.lvl)).size≤3:=by rw [strOfNums_size];exact HSL.out
     rw [hlk] at t2
     have hbl2:=HBD2.out.lt
     obtain ⟨pn,hpn⟩:∃pn,t.anc.length=pn:=⟨_,rfl⟩
     obtain ⟨qn,hqn⟩:∃qn,t.cds.length=qn:=⟨_,rfl⟩
     rw [hpn] at t0
     rw [hqn] at t1
     have HPN:=Lib.hid hpn
     have HQN:=Lib.hid hqn
     clear hpn hqn hlk
     cases hbf:t.bef with
     | true=>
      rw [hbf] at t3 HST
      clear hbf
      have XA:Box (wr.alloc (.cells #[.slice P pn pk,.slice Q qn qk,.int .i64 (lk:Int),.bool true] 35)) wr.heap.size 35 [.slice P pn pk,.slice Q qn qk,.int .i64 (lk:Int),.bool true]:=Box.new wr 35 [.slice P pn pk,.slice Q qn qk,.int .i64 (lk:Int),.bool true] rfl
      have BA:Below wr.heap.size wr (wr.alloc (.cells #[.slice P pn pk,.slice Q qn qk,.int .i64 (lk:Int),.bool true] 35)):=(Below.refl _ _).alloc (Nat.le_refl _) _
      have WE2:=Lib.hid (show ∃Wa,wr.alloc (.cells #[.slice P pn pk,.slice Q qn qk,.int .i64 (lk:Int),.bool true] 35)=Wa from ⟨_,rfl⟩)
      go_upto_region 17 with (fail)
      obtain ⟨Wa,hWa⟩:=WE2.out
      rw [hWa] at XA BA ⊢
      clear hWa WE2 t0 t1 t2 t3
      obtain ⟨rn,hrn⟩:∃n,wr.heap.size=n:=⟨_,rfl⟩
      have HNR:=Lib.hid (show rn≠sg+1 from by omega)
      have hsz2:w.heap.size≤sg+1:=by omega
      have HBDWa:=Lib.hid (HBD2.out.below BA)
      have HXSWa:=Lib.hid (HX2.out.below BA HX2.out.lt)
      have HBWWa:=Lib.hid (HB2.out.trans (BA.mono HB2.out.size))
      rw [hrn] at XA ⊢
      have HXRWa:=Lib.hid XA
      clear XA BA hrn
      have KW1:=Lib.hid (ws_any (sg+1) (sg+1) (R) ([38,32]) (⟨#[38,32]⟩) Wa HBDWa.out rfl (by have:=HL1.out;have:=HSL.out;have:=HCA.out;have:=HCC.out;have:=HTI.out;simp only [List.length_cons,List.length_nil];omega) (by have:=HBDWa.out.lt;omega))
      go_wp2_with fail
      with_reducible refine KW1.out.mono ?_
      rintro e Wb ⟨⟨v1,rfl⟩,hbl,hbb,hok⟩
      have HBDWb:=Lib.hid hbl
      have HXRWb:=Lib.hid (HXRWa.out.kept hok HNR.out (by decide))
      have HXSWb:=Lib.hid (HXSWa.out.kept hok (by omega) (by decide))
      have HBWWb:=Lib.hid (HBWWa.out.trans (hbb.mono hsz2))
      clear hbl hbb hok KW1
      have a0:=HXRWb.out.cell (i:=0) rfl
      have a1:=HXRWb.out.cell (i:=1) rfl
      have a2:=HXRWb.out.cell (i:=2) rfl
      have a3:=HXRWb.out.cell (i:=3) rfl
      have KW2:=Lib.hid (ws_any (sg+1) (sg+1) (R++[38,32]) (befI true) (⟨#[91,98,101,102,111,114,101,93,32]⟩) Wb HBDWb.out rfl (by have:=HL1.out;have:=HSL.out;have:=HCA.out;have:=HCC.out;have hbl9:(befI true).length=9:=rfl;have:=HTI.out;simp only [List.length_append,List.length_cons,List.length_nil];omega) (by have:=HBDWb.out.lt;omega))
      go_wp2_with fail
      with_reducible refine KW2.out.mono ?_
      rintro e Wc ⟨⟨v2,rfl⟩,hbl,hbb,hok⟩
      have HBDWc:=Lib.hid hbl
      have HXRWc:=Lib.hid (HXRWb.out.kept hok HNR.out (by decide))
      have HXSWc:=Lib.hid (HXSWb.out.kept hok (by omega) (by decide))
      have HBWWc:=Lib.hid (HBWWb.out.trans (hbb.mono hsz2))
      clear hbl hbb hok KW2
      clear a0 a1 a2 a3
      have a0:=HXRWc.out.cell (i:=0) rfl
      have a1:=HXRWc.out.cell (i:=1) rfl
      have a2:=HXRWc.out.cell (i:=2) rfl
      have a3:=HXRWc.out.cell (i:=3) rfl
      have KC3:=Lib.hid (codes_any P pn pk t.anc Wc (HPW.out Wc HBWWc.out) HPN.out HRA.out.2 (by have:=HTI.out;have:=HPN.out;omega) (HG.out Wc HBWWc.out))
      go_wp2_with fail
      with_reducible refine KC3.out.mono ?_
      rintro e Wd ⟨rfl,hb2⟩
      have HBDWd:=Lib.hid (HBDWc.out.below hb2)
      have HXRWd:=Lib.hid (HXRWc.out.below hb2 HXRWc.out.lt)
      have HXSWd:=Lib.hid (HXSWc.out.below hb2 HXSWc.out.lt)
      have HBWWd:=Lib.hid (HBWWc.out.trans (hb2.mono HBWWc.out.size))
      clear hb2 KC3
      clear a0 a1 a2 a3
      have a0:=HXRWd.out.cell (i:=0) rfl
      have a1:=HXRWd.out.cell (i:=1) rfl
      have a2:=HXRWd.out.cell (i:=2) rfl
      have a3:=HXRWd.out.cell (i:=3) rfl
      have KC4:=Lib.hid (codes_any Q qn qk t.cds Wd (HQW.out Wd HBWWd.out) HQN.out HRC.out.2 (by have:=HTI.out;have:=HQN.out;omega) (HG.out Wd HBWWd.out))
      go_wp2_with fail
      with_reducible refine KC4.out.mono ?_
      rintro e We ⟨rfl,hb2⟩
      have HBDWe:=Lib.hid (HBDWd.out.below hb2)
      have HXRWe:=Lib.hid (HXRWd.out.below hb2 HXRWd.out.lt)
      have HXSWe:=Lib.hid (HXSWd.out.below hb2 HXSWd.out.lt)
      have HBWWe:=Lib.hid (HBWWd.out.trans (hb2.mono HBWWd.out.size))
      clear hb2 KC4
      clear a0 a1 a2 a3
      have a0:=HXRWe.out.cell (i:=0) rfl
      have a1:=HXRWe.out.cell (i:=1) rfl
      have a2:=HXRWe.out.cell (i:=2) rfl
      have a3:=HXRWe.out.cell (i:=3) rfl
      have cs:=HSG.out We HXSWe.out
      have KW5:=Lib.hid (ws_any (sg+1) (sg+1) (R++[38,32]++befI true) (40::codI t.anc++([41,32]++(sgnI t.lvl++([32,40]++(codI t.cds++[41,10]))))) ((⟨#[40]⟩:ByteArray)++strOfNums (codI t.anc)++⟨#[41,32]⟩++strOfNums (sgnI t.lvl)++⟨#[32,40]⟩++strOfNums (codI t.cds)++⟨#[41,10]⟩) We HBDWe.out (line_str t.anc t.cds t.lvl) (by have:=HL1.out;have:=HSL.out;have:=HCA.out;have:=HCC.out;have hbl9:(befI true).length=9:=rfl;have:=HTI.out;simp only [List.length_append,List.length_cons,List.length_nil];omega) (by have:=HBDWe.out.lt;omega))
      go_wp2_with fail
      with_reducible refine KW5.out.mono ?_
      rintro e Wf ⟨⟨v5,rfl⟩,hbl,hbb,hok⟩
      have HBDWf:=Lib.hid hbl
      have HXRWf:=Lib.hid (HXRWe.out.kept hok HNR.out (by decide))
      have HXSWf:=Lib.hid (HXSWe.out.kept hok (by omega) (by decide))
      have HBWWf:=Lib.hid (HBWWe.out.trans (hbb.mono hsz2))
      clear hbl hbb hok KW5
      have HR2:=Lib.hid (show Bld (sg+1) (sg+1) R2 Wf from by
       have h:=HBDWf.out
       rw [HSN.out,HST.out]
       simpa [List.append_assoc,befI] using h)
      clear a0 a1 a2 a3 cs
      go_wp2_with fail
      go_roundw
      case rel=>exact ⟨i+1,by omega,by go_num,by rw [HRE.out];exact HR2.out,HXSWf.out,HBWWf.out⟩
      case measure=>(try simp [intOf]) <;> (try omega)
     | false=>
      rw [hbf] at t3 HST
      clear hbf
      have XA:Box (wr.alloc (.cells #[.slice P pn pk,.slice Q qn qk,.int .i64 (lk:Int),.bool false] 35)) wr.heap.size 35 [.slice P pn pk,.slice Q qn qk,.int .i64 (lk:Int),.bool false]:=Box.new wr 35 [.slice P pn pk,.slice Q qn qk,.int .i64 (lk:Int),.bool false] rfl
      have BA:Below wr.heap.size wr (wr.alloc (.cells #[.slice P pn pk,.slice Q qn qk,.int .i64 (lk:Int),.bool false] 35)):=(Below.refl _ _).alloc (Nat.le_refl _) _
      have WE2:=Lib.hid (show ∃Wa,wr.alloc (.cells #[.slice P pn pk,.slice Q qn qk,.int .i64 (lk:Int),.bool false] 35)=Wa from ⟨_,rfl⟩)
      go_upto_region 17 with (fail)
      obtain ⟨Wa,hWa⟩:=WE2.out
      rw [hWa] at XA BA ⊢
      clear hWa WE2 t0 t1 t2 t3
      obtain ⟨rn,hrn⟩:∃n,wr.heap.size=n:=⟨_,rfl⟩
      have HNR:=Lib.hid (show rn≠sg+1 from by omega)
      have hsz2:w.heap.size≤sg+1:=by omega
      have HBDWa:=Lib.hid (HBD2.out.below BA)
      have HXSWa:=Lib.hid (HX2.out.below BA HX2.out.lt)
      have HBWWa:=Lib.hid (HB2.out.trans (BA.mono HB2.out.size))
      rw [hrn] at XA ⊢
      have HXRWa:=Lib.hid XA
      clear XA BA hrn
      have KW1:=Lib.hid (ws_any (sg+1) (sg+1) (R) ([38,32]) (⟨#[38,32]⟩) Wa HBDWa.out rfl (by have:=HL1.out;have:=HSL.out;have:=HCA.out;have:=HCC.out;have:=HTI.out;simp only [List.length_cons,List.length_nil];omega) (by have:=HBDWa.out.lt;omega))
      go_wp2_with fail
      with_reducible refine KW1.out.mono ?_
      rintro e Wb ⟨⟨v1,rfl⟩,hbl,hbb,hok⟩
      have HBDWb:=Lib.hid hbl
      have HXRWb:=Lib.hid (HXRWa.out.kept hok HNR.out (by decide))
      have HXSWb:=Lib.hid (HXSWa.out.kept hok (by omega) (by decide))
      have HBWWb:=Lib.hid (HBWWa.out.trans (hbb.mono hsz2))
      clear hbl hbb hok KW1
      have a0:=HXRWb.out.cell (i:=0) rfl
      have a1:=HXRWb.out.cell (i:=1) rfl
      have a2:=HXRWb.out.cell (i:=2) rfl
      have a3:=HXRWb.out.cell (i:=3) rfl
      have KC3:=Lib.hid (codes_any P pn pk t.anc Wb (HPW.out Wb HBWWb.out) HPN.out HRA.out.2 (by have:=HTI.out;have:=HPN.out;omega) (HG.out Wb HBWWb.out))
      go_wp2_with fail
      with_reducible refine KC3.out.mono ?_
      rintro e Wd ⟨rfl,hb2⟩
      have HBDWd:=Lib.hid (HBDWb.out.below hb2)
      have HXRWd:=Lib.hid (HXRWb.out.below hb2 HXRWb.out.lt)
      have HXSWd:=Lib.hid (HXSWb.out.below hb2 HXSWb.out.lt)
      have HBWWd:=Lib.hid (HBWWb.out.trans (hb2.mono HBWWb.out.size))
      clear hb2 KC3
      clear a0 a1 a2 a3
      have a0:=HXRWd.out.cell (i:=0) rfl
      have a1:=HXRWd.out.cell (i:=1) rfl
      have a2:=HXRWd.out.cell (i:=2) rfl
      have a3:=HXRWd.out.cell (i:=3) rfl
      have KC4:=Lib.hid (codes_any Q qn qk t.cds Wd (HQW.out Wd HBWWd.out) HQN.out HRC.out.2 (by have:=HTI.out;have:=HQN.out;omega) (HG.out Wd HBWWd.out))
      go_wp2_with fail
      with_reducible refine KC4.out.mono ?_
      rintro e We ⟨rfl,hb2⟩
      have HBDWe:=Lib.hid (HBDWd.out.below hb2)
      have HXRWe:=Lib.hid (HXRWd.out.below hb2 HXRWd.out.lt)
      have HXSWe:=Lib.hid (HXSWd.out.below hb2 HXSWd.out.lt)
      have HBWWe:=Lib.hid (HBWWd.out.trans (hb2.mono HBWWd.out.size))
      clear hb2 KC4
      clear a0 a1 a2 a3
      have a0:=HXRWe.out.cell (i:=0) rfl
      have a1:=HXRWe.out.cell (i:=1) rfl
      have a2:=HXRWe.out.cell (i:=2) rfl
      have a3:=HXRWe.out.cell (i:=3) rfl
      have cs:=HSG.out We HXSWe.out
      have KW5:=Lib.hid (ws_any (sg+1) (sg+1) (R++[38,32]) (40::codI t.anc++([41,32]++(sgnI t.lvl++([32,40]++(codI t.cds++[41,10]))))) ((⟨#[40]⟩:ByteArray)++strOfNums (codI t.anc)++⟨#[41,32]⟩++strOfNums (sgnI t.lvl)++⟨#[32,40]⟩++strOfNums (codI t.cds)++⟨#[41,10]⟩) We HBDWe.out (line_str t.anc t.cds t.lvl) (by have:=HL1.out;have:=HSL.out;have:=HCA.out;have:=HCC.out;have:=HTI.out;simp only [List.length_append,List.length_cons,List.length_nil];omega) (by have:=HBDWe.out.lt;omega))
      go_wp2_with fail
      with_reducible refine KW5.out.mono ?_
      rintro e Wf ⟨⟨v5,rfl⟩,hbl,hbb,hok⟩
      have HBDWf:=Lib.hid hbl
      have HXRWf:=Lib.hid (HXRWe.out.kept hok HNR.out (by decide))
      have HXSWf:=Lib.hid (HXSWe.out.kept hok (by omega) (by decide))
      have HBWWf:=Lib.hid (HBWWe.out.trans (hbb.mono hsz2))
      clear hbl hbb hok KW5
      have HR2:=Lib.hid (show Bld (sg+1) (sg+1) R2 Wf from by
       have h:=HBDWf.out
       rw [HSN.out,HST.out]
       simpa [List.append_assoc,befI] using h)
      clear a0 a1 a2 a3 cs
      go_wp2_with fail
      go_roundw
      case rel=>exact ⟨i+1,by omega,by go_num,by rw [HRE.out];exact HR2.out,HXSWf.out,HBWWf.out⟩
      case measure=>(try simp [intOf]) <;> (try omega)
    ·obtain rfl:i=l.length:=by omega
     have hb:=HBD2.out
     rw [List.take_length] at hb
     have KS:=Lib.hid (bs_any (sg+1) (sg+1) (txtI l) wr hb (by have:=hb.lt;omega))
     have hsz2:w.heap.size≤sg+1:=by omega
     clear hb
     go_wp2_with fail
     with_reducible refine KS.out.mono ?_
     rintro e W2 ⟨rfl,hb2⟩
     have HB4:=Lib.hid (HB2.out.trans (hb2.mono hsz2))
     clear hb2 KS
     go_wp2_with fail
     go_ret2
     obtain ⟨rfl,rfl⟩:=HTE.out
     exact ⟨rfl,HB4.out⟩
end Go.Proofs.YtkhmjidaeliccaaGreatDoor
namespace Go.Proofs.YtkhmjidaeliccaaGreatDoor
open Go.RowKit Go.Maps Go.WideMaps Tl Pa
def fewT (l:List Tlr):Bool:=(l.take 20).all (fun t=>decide (t.anc.length≤12)&&decide (t.cds.length≤12))&&decide (l.length≤6)
theorem fewT_bad {l:List Tlr} {i:Nat} (hi:i < l.length) (h2:i < 20) (h:¬(l[i].anc.length≤12∧l[i].cds.length≤12)):fewT l=false:=by
 unfold fewT
 rw [Bool.and_eq_false_iff]
 left
 rw [List.all_eq_false]
 refine ⟨l[i],?_,by simpa using h⟩
 rw [List.mem_iff_getElem]
 exact ⟨i,by rw [List.length_take];omega,by rw [List.getElem_take]⟩
theorem fewT_end {l:List Tlr} (h:∀j,(hj:j < l.length)→j < 20→l[j].anc.length≤12∧l[j].cds.length≤12):fewT l=decide (l.length≤6):=by
 unfold fewT
 rw [List.all_eq_true.2,Bool.true_and]
 intro t ht
 obtain ⟨j,hj,rfl⟩:=List.getElem_of_mem ht
 rw [List.length_take] at hj
 rw [List.getElem_take]
 simpa using h j (by omega) (by omega)
theorem fewT_all {l:List Tlr} (h:fewT l=true):l.length≤6∧∀t ∈ l,t.anc.length≤12∧t.cds.length≤12:=by
 unfold fewT at h
 rw [Bool.and_eq_true,List.all_eq_true] at h
 have h6:l.length≤6:=by simpa using h.2
 refine ⟨h6,fun t ht=>?_⟩
 have:=h.1 t (by rw [List.take_of_length_le (by omega)];exact ht)
 simpa using this
theorem few_any (K:Option Addr) (k:Nat) (l:List Tlr) (w:World) (hK:Tlrs w K l) (hz:l.length≤9223372036854775807) (hzs:∀t ∈ l,t.anc.length≤9223372036854775807∧t.cds.length≤9223372036854775807):Calls Tryz.prog 16 #[.slice K l.length k] w (fun e w'=>e=.returned (.bool (fewT l))∧Qt w w'):=by
 have HK:=Lib.hid hK
 have HZ:=Lib.hid hzs
 have HBAD:=Lib.hid (fun i hi h2 h=>fewT_bad (l:=l) (i:=i) hi h2 h)
 have HEND:=Lib.hid (fun h=>fewT_end (l:=l) h)
 obtain ⟨r,hr⟩:∃r,fewT l=r:=⟨_,rfl⟩
 rw [hr] at HBAD HEND ⊢
 clear hK hr hzs
 go_enter Tryz.func16,Tryz.ntmps16
 go_wp2_with fail
 go_loopw [3] (fun u wr=>∃i:Nat,i≤l.length∧i≤20∧u=.int .i64 i∧Hid (∀j,(hj:j < l.length)→j < i→l[j].anc.length≤12∧l[j].cds.length≤12)∧Qt w wr) (fun u _=>l.length - (intOf u).toNat)
 case atStart=>exact ⟨0,Nat.zero_le _,by omega,rfl,Lib.hid (fun j _ h=>absurd h (by omega)),Qt.refl _⟩
 case round=>
  obtain ⟨i,hi,h20,rfl,hall,hq⟩:=hrel
  obtain ⟨nq,rfl⟩:=hq
  by_cases hlt:i < l.length
  ·have hil:(i:Int) < (l.length:Int):=by omega
   by_cases h2:i < 20
   ·have h2':(i:Int) < 20:=by omega
    obtain ⟨kb,ko,rfl,hkb,hat⟩:=HK.out.at hlt
    obtain ⟨P,pk,Q,qk,t0,t1,-,-,-,-⟩:=hat i hlt
    have HB:=Lib.hid (fun h=>HBAD.out i hlt h2 h)
    have HX:=Lib.hid (show l[i].anc.length≤12∧l[i].cds.length≤12→∀j,(hj:j < l.length)→j < i+1→l[j].anc.length≤12∧l[j].cds.length≤12 from fun h j hj h1=>by
     by_cases e:j < i
     ·exact hall.out j hj e
     ·obtain rfl:j=i:=by omega
      exact h)
    have hzz:=HZ.out _ (List.getElem_mem hlt)
    clear hat hall
    generalize l[i]=t at *
    generalize t.anc.length=pn at *
    generalize t.cds.length=qn at *
    by_cases ha:12 < pn
    ·have HE:=Lib.hid (HB.out (by omega))
     have da:decide ((12:Int) < (pn:Int))=true:=by simp;omega
     clear ha HB HX
     go_wp2_with fail
     go_ret
     rw [HE.out]
     exact ⟨rfl,by repeat (first | exact Qt.refl _ | refine Qt.drewN ?_ _)⟩
    ·have da:decide ((12:Int) < (pn:Int))=false:=by simp;omega
     by_cases hc:12 < qn
     ·have HE:=Lib.hid (HB.out (by omega))
      have dc:decide ((12:Int) < (qn:Int))=true:=by simp;omega
      clear ha hc HB HX
      go_wp2_with fail
      go_ret
      rw [HE.out]
      exact ⟨rfl,by repeat (first | exact Qt.refl _ | refine Qt.drewN ?_ _)⟩
     ·have dc:decide ((12:Int) < (qn:Int))=false:=by simp;omega
      have HN:=Lib.hid (HX.out ⟨by omega,by omega⟩)
      clear ha hc HB HX
      go_wp2_with fail
      go_roundw
      case rel=>exact ⟨i+1,by omega,by omega,by go_num,Lib.hid HN.out,by repeat (first | exact Qt.refl _ | refine Qt.drewN ?_ _)⟩
      case measure=>(try simp [intOf]) <;> (try omega)
   ·obtain rfl:i=20:=by omega
    have HE:=Lib.hid (show r=decide (l.length≤6) from HEND.out (fun j hj h=>hall.out j hj h))
    have d6:decide ((l.length:Int)≤6)=false:=by simp;omega
    clear hall
    go_wp2_with fail
    go_ret
    have hf:decide (l.length≤6)=false:=decide_eq_false (by omega)
    rw [HE.out,hf]
    exact ⟨rfl,by repeat (first | exact Qt.refl _ | refine Qt.drewN ?_ _)⟩
  ·obtain rfl:i=l.length:=by omega
   have HE:=Lib.hid (show r=decide (l.length≤6) from HEND.out (fun j hj h=>hall.out j hj hj))
   clear hall
   go_wp2_with fail
   go_ret
   rw [HE.out]
   exact ⟨by by_cases h:l.length≤6 <;> simp [h] <;> omega,by repeat (first | exact Qt.refl _ | refine Qt.drewN ?_ _)⟩
theorem same_any (A B:Option Addr) (a b:Nat) (l:List Tlr) (w:World) (hA:Tlrs w A l) (hB:Tlrs w B l) (hz:l.length≤9223372036854775807) (hzs:∀t ∈ l,t.anc.length≤9223372036854775807∧t.cds.length≤9223372036854775807):Calls Tryz.prog 30 #[.slice A l.length a,.slice B l.length b] w (fun e w'=>e=.returned (.bool true)∧Qt w w'):=by
 have HA:=Lib.hid hA
 have HB:=Lib.hid hB
 have HZ:=Lib.hid hzs
 clear hA hB hzs
 go_enter Tryz.func30,Tryz.ntmps30
 go_wp2_with fail
 go_loopw [5] (fun u wr=>∃i:Nat,i≤l.length∧u=.int .i64 i∧Qt w wr) (fun u _=>l.length - (intOf u).toNat)
 case atStart=>exact ⟨0,Nat.zero_le _,rfl,Qt.refl _⟩
 case round=>
  obtain ⟨i,hi,rfl,hq⟩:=hrel
  obtain ⟨nq,rfl⟩:=hq
  by_cases hlt:i < l.length
  ·have hil:(i:Int) < (l.length:Int):=by omega
   obtain ⟨kb,ko,rfl,hkb,hat⟩:=HA.out.at hlt
   obtain ⟨P,pk,Q,qk,t0,t1,t2,t3,hP,hQ⟩:=hat i hlt
   obtain ⟨jb,jo,rfl,hjb,hbt⟩:=HB.out.at hlt
   obtain ⟨P',pk',Q',qk',s0,s1,s2,s3,hP',hQ'⟩:=hbt i hlt
   have hzz:=HZ.out _ (List.getElem_mem hlt)
   clear hat hbt
   generalize l[i]=t at *
   have C1:=Lib.hid (fun n=>Equal_any P P' _ _ pk pk' t.anc t.anc (w.drewN (nq+n)) (Sl.drewN hP _) (Sl.drewN hP' _) rfl rfl hzz.1 hzz.1)
   have C2:=Lib.hid (fun n=>Equal_any Q Q' _ _ qk qk' t.cds t.cds (w.drewN (nq+n)) (Sl.drewN hQ _) (Sl.drewN hQ' _) rfl rfl hzz.2 hzz.2)
   simp only [decide_true] at C1 C2
   clear hP hQ hP' hQ' hzz
   go_wp2_with fail
   go_quiet ((go_at_call 80;first | exact quiet_add_qt (C1.out _) | exact quiet_add_qt (C2.out _)))
   go_wp2_with fail
   go_roundw
   case rel=>exact ⟨i+1,by omega,by go_num,by repeat (first | exact Qt.refl _ | refine Qt.drewN ?_ _)⟩
   case measure=>(try simp [intOf]) <;> (try omega)
  ·obtain rfl:i=l.length:=by omega
   go_wp2_with fail
   go_ret
   exact ⟨rfl,by repeat (first | exact Qt.refl _ | refine Qt.drewN ?_ _)⟩
end Go.Proofs.YtkhmjidaeliccaaGreatDoor
