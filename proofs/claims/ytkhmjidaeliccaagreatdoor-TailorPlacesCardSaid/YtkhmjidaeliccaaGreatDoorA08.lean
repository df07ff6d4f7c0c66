/- Texts that are merged into one file: CkGroups, RefGroups, CkEntry, Compare, CkColl, Tlr, TlPlain, HeldApp, TlSmall, Row. -/
import Derived.Test.YtkhmjidaeliccaaGreatDoorA01
import Derived.Test.YtkhmjidaeliccaaGreatDoorA02
import Derived.Test.YtkhmjidaeliccaaGreatDoorA03
import Derived.IntWalk
import Derived.WalkSpells
import Derived.Outline
import Derived.Test.YtkhmjidaeliccaaGreatDoorProg
import Derived.Deep.QuietTactic
import Derived.BigQuiet
import Derived.Deep.Cut
import Derived.Deep.AppendLies
set_option maxRecDepth 100000
set_option maxHeartbeats 51200000
namespace Go.Proofs.YtkhmjidaeliccaaGreatDoor
open Go.RowKit Go.Maps Go.WideMaps
theorem law_str:Keyed Tryz.prog 9:=string_keyed Tryz.underlying9
theorem zero_bool (w:World):(zeroValue 4).run Tryz.prog w=.ok (.bool false) w:=by kernel_rfl
theorem key_str {s:ByteArray} (h:s.size≤9223372036854775807):keyOf Tryz.prog 9 (.string s)=some (skey s):=keyOf_string_mk Tryz.underlying9 (by unfold maxLen;exact h)
theorem sok_of {s:ByteArray} (h:s.size≤9223372036854775807):sok s:=by unfold sok maxLen;exact h
instance (s:ByteArray) (l:List ByteArray):Decidable (s ∈ l):=decidable_of_iff (l.any (fun x=>decide (x=s))=true) (by simp)
def setF (l:List ByteArray) (s:ByteArray):Option Value:=if s ∈ l then some (.bool true) else none
theorem setF_yes {l:List ByteArray} {s:ByteArray} (h:s ∈ l):(setF l s).getD (.bool false)=.bool true:=by unfold setF;rw [if_pos h];rfl
theorem setF_no {l:List ByteArray} {s:ByteArray} (h:s ∉ l):(setF l s).getD (.bool false)=.bool false:=by unfold setF;rw [if_neg h];rfl
theorem setF_put (l:List ByteArray) (s:ByteArray) (x:ByteArray):setF (l++[s]) x=if x=s then some (.bool true) else setF l x:=by
 unfold setF
 by_cases h:x=s
 ·simp [h]
 ·simp [h]
theorem ckGroups_any (A:Option Addr) (n a:Nat) (B:Option Addr) (m b:Nat) (c:Col) (w:World) (h:ColAt w A n B m c) (hb65:c.base≤65502) (hbig:m≤1048576) :
  Calls Tryz.prog 68 #[colV A n a B m b c] w (RetInt (grpErr c.base c.grps) w):=by
 obtain ⟨ents,gs,base,second,third⟩:=c
 obtain ⟨_,hG,hn,hm,hs⟩:=h
 dsimp only at hG hn hm hs hb65
 subst hm
 unfold colV
 dsimp only
 have HS:=Lib.hid (fun i (hi:i < gs.length)=>hs gs[i] (List.getElem_mem hi))
 have HG:=Lib.hid hG
 have hmm:=@run_makeMap Tryz.prog
 clear hs hG hn
 go_enter Tryz.func68,Tryz.ntmps68
 go_wp2
 have B0:Below w.heap.size w (w.alloc (.cells #[.slice A n a,.slice B gs.length b,.int .i64 base,.int .i64 second,.int .i64 third] 32)):=(Below.refl _ _).alloc (Nat.le_refl _) _
 have s0:(w.alloc (.cells #[.slice A n a,.slice B gs.length b,.int .i64 base,.int .i64 second,.int .i64 third] 32)).heap.size=w.heap.size+1:=by simp
 have k1:(w.alloc (.cells #[.slice A n a,.slice B gs.length b,.int .i64 base,.int .i64 second,.int .i64 third] 32)).cell? ⟨w.heap.size,1,none⟩=some (.slice B gs.length b):=by simp
 have k2:(w.alloc (.cells #[.slice A n a,.slice B gs.length b,.int .i64 base,.int .i64 second,.int .i64 third] 32)).cell? ⟨w.heap.size,2,none⟩=some (.int .i64 base):=by simp
 obtain ⟨W0,hW0⟩:∃W0,w.alloc (.cells #[.slice A n a,.slice B gs.length b,.int .i64 base,.int .i64 second,.int .i64 third] 32)=W0:=⟨_,rfl⟩
 rw [hW0] at B0 s0 k1 k2 ⊢
 clear hW0
 have HG0:=Lib.hid (HG.out.below B0)
 have K:=Lib.hid (And.intro k1 k2)
 have S0:=Lib.hid s0
 have hx0:w.heap.size < W0.heap.size:=by omega
 clear HG k1 k2 s0
 go_loopw [4,15] (fun _ u wr=>∃i:Nat,i≤gs.length∧u=.int .i64 i∧(∀t,(ht:t < gs.length)→t < i→nameOk gs[t].name=true)∧Below W0.heap.size W0 wr) (fun _ u _=>gs.length - (intOf u).toNat)
 case atStart=>exact ⟨0,Nat.zero_le _,rfl,fun t _ h=>by omega,Below.refl _ _⟩
 case round=>
  obtain ⟨i,hi,rfl,h6,hb⟩:=hrel
  have H6:=Lib.hid h6;clear h6
  by_cases hlt:i < gs.length
  ·obtain ⟨b1,o1,rfl,hbl,hcell⟩:=(HG0.out.below hb).at hlt
   obtain ⟨c1,c2,c3⟩:=hcell i hlt
   have hss:=HS.out i hlt
   have HB:=Lib.hid (fun h=>grp6 (base:=base) hlt h)
   have HN:=Lib.hid (fun h=>all_up (P:=fun g=>nameOk g.name=true) hlt H6.out h)
   clear hcell
   generalize gs[i].name=nm at *
   generalize gs[i].lo=lo at *
   generalize gs[i].hi=hi' at *
   go_wp2_with fail
   refine (isName_any nm _ hss).mono ?_
   rintro e w1 ⟨rfl,rfl⟩
   cases hnm:nameOk nm
   ·go_wp2_with fail
    go_ret
    exact ⟨ret_int (HB.out hnm).symm,B0.trans ((hb.alloc hb.size _).mono B0.size)⟩
   ·go_wp2_with fail
    go_roundw
    case rel=>exact ⟨i+1,by omega,by go_num,HN.out hnm,hb.alloc hb.size _⟩
    case measure=>simp [intOf];omega
  ·have H6':=Lib.hid (fun t (ht:t < gs.length)=>H6.out t ht (by omega))
   clear H6
   have f1:=(hb.cell (p:=⟨w.heap.size,1,none⟩) hx0).trans K.out.1
   have hx1:w.heap.size < wr.heap.size:=by have:=hb.size;omega
   go_wp2
   have hM0:=MapIs.made Tryz.prog 9 skey sok wr
   have hb1:=hb.alloc hb.size (.map #[] 0)
   obtain ⟨mb,hmb⟩:∃mb,wr.heap.size=mb:=⟨_,rfl⟩
   rw [hmb] at hM0 ⊢
   have hmb0:W0.heap.size≤mb:=by have:=hb.size;omega
   obtain ⟨W1,hW1⟩:∃W1,wr.alloc (.map #[] 0)=W1:=⟨_,rfl⟩
   rw [hW1] at hM0 hb1 ⊢
   clear hW1 hmb hb f1 hx1
   go_loopw [7,28] (fun _ u wr=>∃i:Nat,i≤gs.length∧u=.int .i64 i∧(nms gs i).Nodup∧MapS Tryz.prog 9 wr mb i (setF (nms gs i))∧Below W0.heap.size W0 wr) (fun _ u _=>gs.length - (intOf u).toNat)
   case atStart=>exact ⟨0,Nat.zero_le _,rfl,by simp [nms],hM0.ext (fun x _=>by simp [nms,setF]),hb1⟩
   case round=>
    obtain ⟨i,hi,rfl,h5,hM,hb⟩:=hrel
    have H5:=Lib.hid h5;clear h5
    have HM:=Lib.hid hM;clear hM
    by_cases hlt:i < gs.length
    ·obtain ⟨b1,o1,rfl,hbl,hcell⟩:=(HG0.out.below hb).at hlt
     obtain ⟨c1,c2,c3⟩:=hcell i hlt
     have hss:=HS.out i hlt
     have HB:=Lib.hid (fun h=>grp5 (base:=base) H6'.out (nms_dup hlt h))
     have HN:=Lib.hid (fun h=>nms_nodup hlt H5.out h)
     have HE:=Lib.hid (nms_succ hlt)
     clear hcell
     generalize gs[i].name=nm at *
     generalize gs[i].lo=lo at *
     generalize gs[i].hi=hi' at *
     by_cases hin:nm ∈ nms gs i
     ·have HV:=Lib.hid (setF_yes hin)
      go_wp2_with (at_lookup;refine wpList_look rfl _ _ 184 rfl (HM.out.alloc _) law_str Tryz.underlying184 (zero_bool _) rfl rfl (sok_of hss) (key_str hss) ?_;rw [HV.out])
      go_ret
      exact ⟨ret_int (HB.out hin).symm,B0.trans ((hb.alloc hb.size _).mono B0.size)⟩
     ·have HV:=Lib.hid (setF_no hin)
      have HP:=Lib.hid (fun x=>setF_put (nms gs i) nm x)
      go_wp2_with (first
       | (at_lookup;refine wpList_look rfl _ _ 184 rfl (HM.out.alloc _) law_str Tryz.underlying184 (zero_bool _) rfl rfl (sok_of hss) (key_str hss) ?_;rw [HV.out])
       | (at_mapUpdate;refine wpList_mput rfl _ _ _ 184 rfl (HM.out.alloc _) law_str Tryz.underlying184 (by unfold maxLen;omega) rfl rfl rfl (sok_of hss) (key_str hss) (fun y _ e=>skey_inj e) ?_;intro w9 hM9 hg9))
      have hb9:=below_grown (hb.alloc hb.size (.cells #[.string nm,.int .i64 lo,.int .i64 hi'] 98)) hg9 hmb0 (by have:=hb.size;simp;omega)
      have HM9:=Lib.hid hM9
      clear hM9 hg9
      go_roundw
      case rel=>exact ⟨i+1,by omega,by go_num,HN.out hin,by rw [HE.out];exact HM9.out.ext (fun x _=>HP.out x),hb9⟩
      case measure=>simp [intOf];omega
    ·have H5':=Lib.hid (show (gs.map Grp.name).Nodup by rw [←nms_all,show gs.length=i by omega];exact H5.out)
     clear H5 HM
     have f1:=(hb.cell (p:=⟨w.heap.size,1,none⟩) hx0).trans K.out.1
     go_wp2
     clear f1
     go_loopw [9,43] (fun _ u wr=>∃i:Nat,i≤gs.length∧u=.int .i64 i∧(∀t,(ht:t < gs.length)→t < i→¬badG base gs[t])∧Below W0.heap.size W0 wr) (fun _ u _=>gs.length - (intOf u).toNat)
     case atStart=>exact ⟨0,Nat.zero_le _,rfl,fun t _ h=>by omega,hb⟩
     case round=>
      obtain ⟨i,hi,rfl,h1,hb⟩:=hrel
      have H1:=Lib.hid h1;clear h1
      have hx1:w.heap.size < wr.heap.size:=by have:=hb.size;omega
      by_cases hlt:i < gs.length
      ·obtain ⟨b1,o1,rfl,hbl,hcell⟩:=(HG0.out.below hb).at hlt
       obtain ⟨c1,c2,c3⟩:=hcell i hlt
       have f2:=(hb.cell (p:=⟨w.heap.size,2,none⟩) hx0).trans K.out.2
       have HD:=Lib.hid (show badG base gs[i] ↔ (gs[i].lo < 1∨gs[i].hi < gs[i].lo∨base≤gs[i].hi) from Iff.rfl)
       have HB:=Lib.hid (fun h=>grp1 (base:=base) H6'.out H5'.out hlt h)
       have HN:=Lib.hid (fun h=>all_up (P:=fun g=>¬badG base g) hlt H1.out h)
       clear hcell
       generalize badG base gs[i]=Bd at *
       generalize gs[i].name=nm at *
       generalize gs[i].lo=lo at *
       generalize gs[i].hi=hi' at *
       go_wp2
       all_goals first
        | (go_ret
           exact ⟨ret_int (HB.out (HD.out.2 (by omega))).symm,B0.trans ((hb.alloc hb.size _).mono B0.size)⟩)
        | (go_roundw
           case rel=>exact ⟨i+1,by omega,by go_num,HN.out (fun h=>by have:=HD.out.1 h;omega),hb.alloc hb.size _⟩
           case measure=>simp [intOf];omega)
      ·have H1':=Lib.hid (fun t (ht:t < gs.length)=>H1.out t ht (by omega))
       clear H1
       have f1:=(hb.cell (p:=⟨w.heap.size,1,none⟩) hx0).trans K.out.1
       go_wp2
       clear f1
       go_loopw [10,11,68] (fun _ _ u wr=>∃i:Nat,i≤gs.length∧u=.int .i64 i∧(∀t,(ht:t+1 < gs.length)→t+1 < i→gs[t+1].lo=gs[t].hi+1)∧Below W0.heap.size W0 wr) (fun _ _ u _=>gs.length - (intOf u).toNat)
       case atStart=>exact ⟨0,Nat.zero_le _,rfl,fun t _ h=>by omega,hb⟩
       case round=>
        obtain ⟨i,hi,rfl,h4,hb⟩:=hrel
        have H4:=Lib.hid h4;clear h4
        have hx1:w.heap.size < wr.heap.size:=by have:=hb.size;omega
        by_cases hlt:i < gs.length
        ·obtain ⟨b1,o1,rfl,hbl,hcell⟩:=(HG0.out.below hb).at hlt
         obtain ⟨c1,c2,c3⟩:=hcell i hlt
         have f1:=(hb.cell (p:=⟨w.heap.size,1,none⟩) hx0).trans K.out.1
         by_cases hp:0 < i
         ·have hp1:i - 1 < gs.length:=by omega
          have d3:=(hcell (i - 1) hp1).2.2
          have HX:=H1'.out (i - 1) hp1
          unfold badG at HX
          have e1:i - 1+1=i:=by omega
          have HB:=Lib.hid (fun (h:gs[i].lo≠(gs[i - 1]'hp1).hi+1)=>grp4 (base:=base) H6'.out H5'.out H1'.out (k:=i - 1) (by omega) (by simpa only [e1] using h))
          have HN:=Lib.hid (fun (h:gs[i].lo=(gs[i - 1]'hp1).hi+1)=>show ∀t,(ht:t+1 < gs.length)→t+1 < i+1→gs[t+1].lo=gs[t].hi+1 from fun t ht g=>by
           by_cases e:t+1 < i
           ·exact H4.out t ht e
           ·obtain rfl:t=i - 1:=by omega
            simpa only [e1] using h)
          have hz:1≤(gs[i - 1]'hp1).hi∧(gs[i - 1]'hp1).hi < 65502:=by omega
          clear hcell e1 HX
          generalize gs[i].name=nm at *
          generalize gs[i].lo=lo at *
          generalize gs[i].hi=hi' at *
          generalize (gs[i - 1]'hp1).hi=ph at *
          have i1:(0:Int)≤(i:Int) - 1:=by omega
          have i2:(i:Int) - 1 < (gs.length:Int):=by omega
          have i3:((i:Int) - 1).toNat=i - 1:=by omega
          have w1:IntKind.i64.wrap ((i:Int) - 1)=(i:Int) - 1:=IntWalk.i64_in _ (by omega)
          have w2:IntKind.i64.wrap (ph+1)=ph+1:=IntWalk.i64_in _ (by omega)
          by_cases hq:lo=ph+1
          ·have q1:(lo != ph+1)=false:=by simpa using hq
           have HQ:=Lib.hid (HN.out hq)
           clear hq HN HB
           go_wp2_with fail
           go_quiet (fail)
           clear i3 w1 w2
           go_wp2_with fail
           go_roundw
           case rel=>exact ⟨i+1,by omega,by go_num,HQ.out,⟨hb.os,hb.tape,hb.output,(hb.alloc hb.size _).size,(hb.alloc hb.size _).block⟩⟩
           case measure=>simp [intOf];omega
          ·have q1:(lo != ph+1)=true:=by simpa using hq
           have HQ:=Lib.hid (HB.out hq)
           clear hq HN HB
           go_wp2_with fail
           go_quiet (fail)
           clear i3 w1 w2
           go_wp2_with fail
           go_ret
           exact ⟨ret_int HQ.out.symm,B0.trans (Below.mono ⟨hb.os,hb.tape,hb.output,(hb.alloc hb.size _).size,(hb.alloc hb.size _).block⟩ B0.size)⟩
         ·have hp0:decide ((0:Int) < (i:Int))=false:=by simp;omega
          have HQ:=Lib.hid (show ∀t,(ht:t+1 < gs.length)→t+1 < i+1→gs[t+1].lo=gs[t].hi+1 from fun t ht g=>by omega)
          clear hcell
          generalize gs[i].name=nm at *
          generalize gs[i].lo=lo at *
          generalize gs[i].hi=hi' at *
          go_wp2_with fail
          go_quiet (fail)
          go_wp2_with fail
          go_roundw
          case rel=>exact ⟨i+1,by omega,by go_num,HQ.out,⟨hb.os,hb.tape,hb.output,(hb.alloc hb.size _).size,(hb.alloc hb.size _).block⟩⟩
          case measure=>simp [intOf];omega
        ·have HF:=Lib.hid (grp0 (base:=base) H6'.out H5'.out H1'.out (fun t ht=>H4.out t ht (by omega)))
         go_wp2
         go_ret
         exact ⟨ret_int HF.out.symm,B0.trans (hb.mono B0.size)⟩
end Go.Proofs.YtkhmjidaeliccaaGreatDoor
namespace Go.Proofs.YtkhmjidaeliccaaGreatDoor
open Go.RowKit Go.Maps Go.WideMaps
end Go.Proofs.YtkhmjidaeliccaaGreatDoor
namespace Go.Proofs.YtkhmjidaeliccaaGreatDoor
open Go.RowKit Go.Maps Go.WideMaps
section
variable {base:Int} {x:Ent}
theorem firstErr_at {α:Type} {f:α→Int} {l:List α} {k:Nat} (hk:k < l.length) (h0:∀t,(ht:t < l.length)→t < k→f l[t]=0) (h:f l[k]≠0):firstErr (l.map f)=f l[k]:=by
 induction l generalizing k with
 | nil=>simp at hk
 | cons a r ih=>
  cases k with
  | zero=>
   simp only [List.getElem_cons_zero] at *
   simp [firstErr,h]
  | succ k=>
   have:=h0 0 (by simp) (by omega)
   simp only [List.getElem_cons_zero] at this
   simp only [List.map_cons,firstErr,this,if_true,List.getElem_cons_succ]
   exact ih (by simpa using hk) (fun t ht h9=>by have:=h0 (t+1) (by simpa using ht) (by omega);simpa using this) (by simpa using h)
theorem firstErr_zero {α:Type} {f:α→Int} {l:List α} (h0:∀t,(ht:t < l.length)→f l[t]=0):firstErr (l.map f)=0:=by
 induction l with
 | nil=>rfl
 | cons a r ih=>
  have:=h0 0 (by simp)
  simp only [List.getElem_cons_zero] at this
  simp only [List.map_cons,firstErr,this,if_true]
  exact ih fun t ht=>by have:=h0 (t+1) (by simpa using ht);simpa using this
def szBad (x:Ent):Prop:=x.codes.length < 1∨8 < x.codes.length∨16 < x.elems.length
theorem ent2 (h:szBad x):entErr1 base x=2:=by unfold szBad at h;unfold entErr1;rw [if_pos h]
theorem ent1 (h:¬szBad x) {k:Nat} (hk:k < x.codes.length) (hc:inR 0 1114111 x.codes[k]=false):entErr1 base x=1:=by
 unfold szBad at h
 unfold entErr1
 rw [if_neg h,if_pos (anyT hk (by simpa using inR_false.1 hc))]
theorem codes_ok (h:∀t,(ht:t < x.codes.length)→inR 0 1114111 x.codes[t]=true):x.codes.any (fun c=>decide (c < 0∨1114111 < c))=false:=anyF fun t ht=>by
 have:=inR_iff.1 (h t ht)
 simp;omega
theorem entE (h:¬szBad x) (hc:∀t,(ht:t < x.codes.length)→inR 0 1114111 x.codes[t]=true) {k:Nat} (hk:k < x.elems.length) (h0:∀t,(ht:t < x.elems.length)→t < k→eltErr x.elems[t]=0) (he:eltErr x.elems[k]≠0):entErr1 base x=eltErr x.elems[k]:=by
 unfold szBad at h
 unfold entErr1
 rw [if_neg h,if_neg (by rw [codes_ok hc];simp),firstErr_at hk h0 he,if_pos he]
theorem entP (h:¬szBad x) (hc:∀t,(ht:t < x.codes.length)→inR 0 1114111 x.codes[t]=true) (h0:∀t,(ht:t < x.elems.length)→eltErr x.elems[t]=0) {k:Nat} (hk:k < x.elems.length) (he:base≤x.elems[k].p):entErr1 base x=1:=by
 unfold szBad at h
 unfold entErr1
 rw [if_neg h,if_neg (by rw [codes_ok hc];simp),firstErr_zero h0,if_neg (by simp),if_pos (anyT hk (by simpa using he))]
theorem ent0 (h:¬szBad x) (hc:∀t,(ht:t < x.codes.length)→inR 0 1114111 x.codes[t]=true) (h0:∀t,(ht:t < x.elems.length)→eltErr x.elems[t]=0) (he:∀t,(ht:t < x.elems.length)→¬base≤x.elems[t].p):entErr1 base x=0:=by
 unfold szBad at h
 unfold entErr1
 rw [if_neg h,if_neg (by rw [codes_ok hc];simp),firstErr_zero h0,if_neg (by simp),if_neg (by rw [anyF fun t ht=>by simpa using he t ht];simp)]
end
theorem ckEntry_any (C:Option Addr) (c:Nat) (E:Option Addr) (d:Nat) (x:Ent) (base:Int) (w:World) (hC:Ints w C x.codes) (hE:Elts w E x.elems) (h1:x.codes.length≤1048576) (h2:x.elems.length≤1048576) :
  Calls Tryz.prog 69 #[.agg #[.slice C x.codes.length c,.slice E x.elems.length d],.int .i64 base] w (RetInt (entErr1 base x) w):=by
 have HSZ:=Lib.hid (show szBad x ↔ (x.codes.length < 1∨8 < x.codes.length∨16 < x.elems.length) from Iff.rfl)
 have HC:=Lib.hid hC;have HE:=Lib.hid hE
 have B0:Below w.heap.size w (w.alloc (.cells #[.slice C x.codes.length c,.slice E x.elems.length d] 75)):=(Below.refl _ _).alloc (Nat.le_refl _) _
 clear hC hE
 by_cases hsz:x.codes.length < 1∨8 < x.codes.length∨16 < x.elems.length
 ·have HQ:=Lib.hid (ent2 (base:=base) (HSZ.out.2 hsz))
  generalize entErr1 base x=R at *
  obtain hsz | ⟨g1,hsz⟩ | ⟨g1,g2,hsz⟩:x.codes.length < 1∨(¬x.codes.length < 1∧8 < x.codes.length)∨(¬x.codes.length < 1∧¬8 < x.codes.length∧16 < x.elems.length):=by omega
  all_goals
   go_enter Tryz.func69,Tryz.ntmps69
   go_wp2
   go_ret
   exact ⟨ret_int HQ.out.symm,B0⟩
 ·have HSZN:=Lib.hid (fun h=>hsz (HSZ.out.1 h))
  have z1:¬x.codes.length < 1:=by omega
  have z2:¬8 < x.codes.length:=by omega
  have z3:¬16 < x.elems.length:=by omega
  clear hsz HSZ
  go_enter Tryz.func69,Tryz.ntmps69
  go_wp2
  have s0:(w.alloc (.cells #[.slice C x.codes.length c,.slice E x.elems.length d] 75)).heap.size=w.heap.size+1:=by simp
  have k1:(w.alloc (.cells #[.slice C x.codes.length c,.slice E x.elems.length d] 75)).cell? ⟨w.heap.size,1,none⟩=some (.slice E x.elems.length d):=by simp
  obtain ⟨W0,hW0⟩:∃W0,w.alloc (.cells #[.slice C x.codes.length c,.slice E x.elems.length d] 75)=W0:=⟨_,rfl⟩
  rw [hW0] at B0 s0 k1 ⊢
  clear hW0
  have HC0:=Lib.hid (HC.out.below B0);have HE0:=Lib.hid (HE.out.below B0)
  have K:=Lib.hid k1
  have hx0:w.heap.size < W0.heap.size:=by omega
  clear HC HE k1 s0
  go_loop [6,31] (fun _ u=>∃i:Nat,i≤x.codes.length∧u=.int .i64 i∧(∀t,(ht:t < x.codes.length)→t < i→inR 0 1114111 x.codes[t]=true)) (fun _ u=>x.codes.length - (intOf u).toNat)
  case atStart=>exact ⟨0,Nat.zero_le _,rfl,fun t _ h=>by omega⟩
  case round=>
   obtain ⟨i,hi,rfl,g1⟩:=hrel
   have G1:=Lib.hid g1;clear g1
   by_cases hlt:i < x.codes.length
   ·obtain ⟨b1,o1,rfl,hcell⟩:=HC0.out.at hlt
    have c1:=hcell i hlt
    have HB:=Lib.hid (fun h=>ent1 (base:=base) HSZN.out hlt h)
    have HN:=Lib.hid (fun h=>all_up (P:=fun c=>inR 0 1114111 c=true) hlt G1.out h)
    clear hcell
    generalize x.codes[i]=cd at *
    go_wp2_with fail
    refine (cpValid_any cd _).mono ?_
    rintro e w1 ⟨rfl,rfl⟩
    cases hv:inR 0 1114111 cd
    ·have HQ:=Lib.hid (HB.out hv)
     go_wp2_with fail
     go_ret
     exact ⟨ret_int HQ.out.symm,B0⟩
    ·have HQ:=Lib.hid (HN.out hv)
     go_wp2_with fail
     go_round
     case rel=>exact ⟨i+1,by omega,by go_num,HQ.out⟩
     case measure=>simp [intOf];omega
   ·have G1':=Lib.hid (fun t (ht:t < x.codes.length)=>G1.out t ht (by omega))
    clear G1
    have f1:=K.out
    go_wp2
    clear f1
    go_loopw [8,9,42] (fun _ _ u wr=>∃i:Nat,i≤x.elems.length∧u=.int .i64 i∧(∀t,(ht:t < x.elems.length)→t < i→eltErr x.elems[t]=0)∧Below W0.heap.size W0 wr) (fun _ _ u _=>x.elems.length - (intOf u).toNat)
    case atStart=>exact ⟨0,Nat.zero_le _,rfl,fun t _ h=>by omega,Below.refl _ _⟩
    case round=>
     obtain ⟨i,hi,rfl,g2,hb⟩:=hrel
     have G2:=Lib.hid g2;clear g2
     by_cases hlt:i < x.elems.length
     ·obtain ⟨b1,o1,rfl,hbl,hcell⟩:=(HE0.out.below hb).at hlt
      obtain ⟨c1,c2,c3,c4⟩:=hcell i hlt
      have HB:=Lib.hid (fun h=>entE (base:=base) HSZN.out G1'.out hlt G2.out h)
      have HN:=Lib.hid (fun h=>all_up (P:=fun e=>eltErr e=0) hlt G2.out h)
      have CE:=Lib.hid (fun W=>eltCheck_any x.elems[i] W)
      clear hcell
      generalize eltErr x.elems[i]=ev at *
      generalize x.elems[i].p=p at *
      generalize x.elems[i].s=s at *
      generalize x.elems[i].t=t at *
      generalize x.elems[i].v=v at *
      go_wp2_with fail
      refine (CE.out _).mono ?_
      rintro e w1 ⟨rfl,hb1⟩
      have hb2:=(hb.alloc hb.size (.cells #[.int .i64 p,.int .i64 s,.int .i64 t,.bool v] 77)).trans (hb1.mono (by have:=hb.size;simp;omega))
      clear hb1 c1 c2 c3 c4
      by_cases hz:ev=0
      ·have q1:(ev != 0)=false:=by simpa using hz
       have HQ:=Lib.hid (HN.out hz)
       clear hz HB HN
       go_wp2_with fail
       go_roundw
       case rel=>exact ⟨i+1,by omega,by go_num,HQ.out,hb2⟩
       case measure=>simp [intOf];omega
      ·have q1:(ev != 0)=true:=by simpa using hz
       have HQ:=Lib.hid (HB.out hz)
       clear hz HB HN
       go_wp2_with fail
       go_ret
       exact ⟨ret_int HQ.out.symm,B0.trans (hb2.mono B0.size)⟩
     ·have G2':=Lib.hid (fun t (ht:t < x.elems.length)=>G2.out t ht (by omega))
      clear G2
      have f1:=(hb.cell (p:=⟨w.heap.size,1,none⟩) hx0).trans K.out
      go_wp2
      clear f1
      go_loopw [11,55] (fun _ u wr=>∃i:Nat,i≤x.elems.length∧u=.int .i64 i∧(∀t,(ht:t < x.elems.length)→t < i→¬base≤x.elems[t].p)∧Below W0.heap.size W0 wr) (fun _ u _=>x.elems.length - (intOf u).toNat)
      case atStart=>exact ⟨0,Nat.zero_le _,rfl,fun t _ h=>by omega,hb⟩
      case round=>
       obtain ⟨i,hi,rfl,g3,hb⟩:=hrel
       have G3:=Lib.hid g3;clear g3
       by_cases hlt:i < x.elems.length
       ·obtain ⟨b1,o1,rfl,hbl,hcell⟩:=(HE0.out.below hb).at hlt
        obtain ⟨c1,c2,c3,c4⟩:=hcell i hlt
        have HB:=Lib.hid (fun h=>entP (base:=base) HSZN.out G1'.out G2'.out hlt h)
        have HN:=Lib.hid (fun h=>all_up (P:=fun e=>¬base≤e.p) hlt G3.out h)
        clear hcell
        generalize x.elems[i].p=p at *
        generalize x.elems[i].s=s at *
        generalize x.elems[i].t=t at *
        generalize x.elems[i].v=v at *
        by_cases hz:base≤p
        ·have HQ:=Lib.hid (HB.out hz)
         clear HB HN
         go_wp2
         go_ret
         exact ⟨ret_int HQ.out.symm,B0.trans ((hb.alloc hb.size _).mono B0.size)⟩
        ·have HQ:=Lib.hid (HN.out hz)
         clear HB HN
         go_wp2
         go_roundw
         case rel=>exact ⟨i+1,by omega,by go_num,HQ.out,hb.alloc hb.size _⟩
         case measure=>simp [intOf];omega
       ·have HQ:=Lib.hid (ent0 (base:=base) HSZN.out G1'.out G2'.out (fun t ht=>G3.out t ht (by omega)))
        go_wp2
        go_ret
        exact ⟨ret_int HQ.out.symm,B0.trans (hb.mono B0.size)⟩
end Go.Proofs.YtkhmjidaeliccaaGreatDoor
namespace Go.Proofs.YtkhmjidaeliccaaGreatDoor
open Go.RowKit
end Go.Proofs.YtkhmjidaeliccaaGreatDoor
namespace Go.Proofs.YtkhmjidaeliccaaGreatDoor
open Go.RowKit Go.Maps Go.WideMaps
def prevE (es:List Ent):Nat→Option Ent
 | 0=>none
 | j+1=>es[j]?
def entI (base:Int) (es:List Ent) (i:Nat):Int:=
 match es[i]? with
 | none=>0
 | some x=>if entErr1 base x≠0 then entErr1 base x else match prevE es i with
  | none=>0
  | some y=>if 0≤cmpL y.codes x.codes then 4 else 0
theorem ents_step (base:Int) (es:List Ent) (i:Nat) (hi:i < es.length) :
  entsErr base (es.drop i) (prevE es i)=if entI base es i≠0 then entI base es i else entsErr base (es.drop (i+1)) (prevE es (i+1)):=by
 rw [List.drop_eq_getElem_cons hi]
 unfold entI
 rw [List.getElem?_eq_getElem hi]
 have hp:prevE es (i+1)=some es[i]:=List.getElem?_eq_getElem hi
 rw [hp]
 simp only [entsErr]
 by_cases h1:entErr1 base es[i]=0
 ·simp only [h1,ne_eq,not_true_eq_false,if_false]
  cases prevE es i with
  | none=>simp
  | some y=>
   simp only
   by_cases h2:0≤cmpL y.codes es[i].codes
   ·simp [h2]
   ·simp [h2]
 ·simp [h1]
theorem ents_end (base:Int) (es:List Ent) (i:Nat) (hi:es.length≤i):entsErr base (es.drop i) (prevE es i)=0:=by
 rw [List.drop_eq_nil_of_le hi];rfl
section
variable {base:Int} {es:List Ent} {i:Nat}
theorem entI_1 (hi:i < es.length) (h:entErr1 base es[i]≠0):entI base es i=entErr1 base es[i]:=by
 unfold entI;rw [List.getElem?_eq_getElem hi];simp [h]
theorem entI_0 (hi:0 < es.length) (h:entErr1 base es[0]=0):entI base es 0=0:=by
 unfold entI;rw [List.getElem?_eq_getElem hi];simp [h,prevE]
theorem entI_4 (hi:i+1 < es.length) (h:entErr1 base es[i+1]=0) (h4:0≤cmpL es[i].codes es[i+1].codes):entI base es (i+1)=4:=by
 unfold entI;rw [List.getElem?_eq_getElem hi];simp [h,prevE,List.getElem?_eq_getElem (show i < es.length by omega),h4]
theorem entI_ok (hi:i+1 < es.length) (h:entErr1 base es[i+1]=0) (h4:¬0≤cmpL es[i].codes es[i+1].codes):entI base es (i+1)=0:=by
 unfold entI;rw [List.getElem?_eq_getElem hi];simp [h,prevE,List.getElem?_eq_getElem (show i < es.length by omega),h4]
end
structure ColSz (c:Col):Prop where
 e:∀i,(hi:i < c.ents.length)→c.ents[i].codes.length≤1048576∧c.ents[i].elems.length≤1048576
 n:c.ents.length≤1048576
 m:c.grps.length≤1048576
section
variable {c:Col}
theorem col1 (h:c.base < 1∨65502 < c.base∨inR 1 65535 c.second=false∨inR 1 65535 c.third=false):colErr c=1:=by unfold colErr;rw [if_pos h]
theorem colG (h:¬(c.base < 1∨65502 < c.base∨inR 1 65535 c.second=false∨inR 1 65535 c.third=false)) (hg:grpErr c.base c.grps≠0):colErr c=grpErr c.base c.grps:=by
 unfold colErr;rw [if_neg h,if_pos hg]
theorem colE (h:¬(c.base < 1∨65502 < c.base∨inR 1 65535 c.second=false∨inR 1 65535 c.third=false)) (hg:grpErr c.base c.grps=0):colErr c=entsErr c.base c.ents none:=by
 unfold colErr;rw [if_neg h,if_neg (by simpa using hg)]
end
theorem ckColl_any (A:Option Addr) (n a:Nat) (B:Option Addr) (m b:Nat) (c:Col) (w:World) (h:ColAt w A n B m c) (hz:ColSz c) :
  Calls Tryz.prog 23 #[colV A n a B m b c] w (RetInt (colErr c) w):=by
 have B0:Below w.heap.size w (w.alloc (.cells #[.slice A n a,.slice B m b,.int .i64 c.base,.int .i64 c.second,.int .i64 c.third] 32)):=(Below.refl _ _).alloc (Nat.le_refl _) _
 have H1:=Lib.hid (col1 (c:=c))
 have HG:=Lib.hid (colG (c:=c))
 have HE:=Lib.hid (colE (c:=c))
 have CG:=Lib.hid (fun W (hb:Below w.heap.size w W) (h65:c.base≤65502)=>ckGroups_any A n a B m b c W (h.below hb) h65 (by rw [←h.hm];exact hz.m))
 obtain ⟨es,gs,base,second,third⟩:=c
 dsimp only at *
 unfold colV at *
 dsimp only at *
 have CI:=Lib.hid isWeight_any
 have HEN:=Lib.hid h.ents
 have hnn:=h.hn
 have HSZ:=Lib.hid hz
 dsimp only at hnn
 subst hnn
 clear h hz
 by_cases q1:base < 1
 ·have HQ:=Lib.hid (H1.out (.inl q1))
  go_enter Tryz.func23,Tryz.ntmps23
  go_wp2_with fail
  go_ret
  exact ⟨ret_int HQ.out.symm,B0⟩
 ·by_cases q2:65502 < base
  ·have HQ:=Lib.hid (H1.out (.inr (.inl q2)))
   go_enter Tryz.func23,Tryz.ntmps23
   go_wp2_with fail
   go_ret
   exact ⟨ret_int HQ.out.symm,B0⟩
  ·cases q3:inR 1 65535 second
   ·have HQ:=Lib.hid (H1.out (.inr (.inr (.inl q3))))
    go_enter Tryz.func23,Tryz.ntmps23
    go_wp2_with fail
    refine (CI.out second _).mono ?_
    rw [q3];rintro e w' ⟨rfl,rfl⟩
    go_wp2_with fail
    go_ret
    exact ⟨ret_int HQ.out.symm,B0⟩
   ·cases q4:inR 1 65535 third
    ·have HQ:=Lib.hid (H1.out (.inr (.inr (.inr q4))))
     go_enter Tryz.func23,Tryz.ntmps23
     go_wp2_with fail
     refine (CI.out second _).mono ?_
     rw [q3];rintro e w' ⟨rfl,rfl⟩
     go_wp2_with fail
     refine (CI.out third _).mono ?_
     rw [q4];rintro e w' ⟨rfl,rfl⟩
     go_wp2_with fail
     go_ret
     exact ⟨ret_int HQ.out.symm,B0⟩
    ·have hno:¬(base < 1∨65502 < base∨inR 1 65535 second=false∨inR 1 65535 third=false):=by rw [q3,q4];simp;omega
     have HG':=Lib.hid (HG.out hno);have HE':=Lib.hid (HE.out hno)
     clear HG HE H1 hno
     go_enter Tryz.func23,Tryz.ntmps23
     go_wp2_with fail
     refine (CI.out second _).mono ?_
     rw [q3];rintro e w' ⟨rfl,rfl⟩
     go_wp2_with fail
     refine (CI.out third _).mono ?_
     rw [q4];rintro e w' ⟨rfl,rfl⟩
     go_wp2_with fail
     have s0:(w.alloc (.cells #[.slice A es.length a,.slice B m b,.int .i64 base,.int .i64 second,.int .i64 third] 32)).heap.size=w.heap.size+1:=by simp
     have k0:(w.alloc (.cells #[.slice A es.length a,.slice B m b,.int .i64 base,.int .i64 second,.int .i64 third] 32)).cell? ⟨w.heap.size,0,none⟩=some (.slice A es.length a):=by simp
     have k2:(w.alloc (.cells #[.slice A es.length a,.slice B m b,.int .i64 base,.int .i64 second,.int .i64 third] 32)).cell? ⟨w.heap.size,2,none⟩=some (.int .i64 base):=by simp
     obtain ⟨W0,hW0⟩:∃W0,w.alloc (.cells #[.slice A es.length a,.slice B m b,.int .i64 base,.int .i64 second,.int .i64 third] 32)=W0:=⟨_,rfl⟩
     rw [hW0] at B0 s0 k0 k2 ⊢
     clear hW0
     have HEN0:=Lib.hid (HEN.out.below B0)
     have K:=Lib.hid (And.intro k0 k2)
     have hx0:w.heap.size < W0.heap.size:=by omega
     clear HEN k0 k2 s0 q3 q4 CI
     refine (CG.out W0 B0 (by omega)).mono ?_
     rintro e W1 ⟨rfl,hb1⟩
     clear CG
     by_cases hgz:grpErr base gs=0
     ·have g1:(grpErr base gs != 0)=false:=by simpa using hgz
      have HQ:=Lib.hid (HE'.out hgz)
      clear hgz HG' HE'
      generalize grpErr base gs=ge at *
      generalize colErr ⟨es,gs,base,second,third⟩=R at *
      have f0:=(hb1.cell (p:=⟨w.heap.size,0,none⟩) hx0).trans K.out.1
      go_wp2_with fail
      clear f0
      go_loopw [4,5,6,35] (fun _ _ _ u wr=>∃i:Nat,i≤es.length∧u=.int .i64 i∧entsErr base es none=entsErr base (es.drop i) (prevE es i)∧Below W0.heap.size W0 wr) (fun _ _ _ u _=>es.length - (intOf u).toNat)
      case atStart=>exact ⟨0,Nat.zero_le _,rfl,rfl,hb1⟩
      case round=>
       obtain ⟨i,hi,rfl,hen,hb⟩:=hrel
       have HEE:=Lib.hid hen;clear hen hb1
       by_cases hlt:i < es.length
       ·obtain ⟨b1,o1,rfl,hbl,hcell⟩:=(HEN0.out.below hb).at hlt
        obtain ⟨C,cc,E,d,c1,c2,hC,hE⟩:=hcell i hlt
        obtain ⟨z1,z2⟩:=HSZ.out.e i hlt
        dsimp only at z1 z2
        have f2:=(hb.cell (p:=⟨w.heap.size,2,none⟩) hx0).trans K.out.2
        have f0:=(hb.cell (p:=⟨w.heap.size,0,none⟩) hx0).trans K.out.1
        have hx1:w.heap.size < wr.heap.size:=by have:=hb.size;omega
        have hnz:es.length≤1048576:=HSZ.out.n
        have ST:=Lib.hid (ents_step base es i hlt)
        have E1:=Lib.hid (fun h=>entI_1 (base:=base) hlt h)
        have HPV:=Lib.hid (show 0 < i→∃D dd,wr.cell? ⟨b1,o1+(i - 1)*2,none⟩=some (.slice D (es[i - 1]'(by omega)).codes.length dd)∧Ints wr D (es[i - 1]'(by omega)).codes∧(es[i - 1]'(by omega)).codes.length≤1048576∧(entErr1 base es[i]=0→(0≤cmpL (es[i - 1]'(by omega)).codes es[i].codes→entI base es i=4)∧(¬0≤cmpL (es[i - 1]'(by omega)).codes es[i].codes→entI base es i=0)) from fun hp=>by
         obtain ⟨j,rfl⟩:∃j,i=j+1:=⟨i - 1,by omega⟩
         obtain ⟨D,dd,_,_,e1,_,e3,_⟩:=hcell j (by omega)
         exact ⟨D,dd,e1,e3,(HSZ.out.e j (show j < es.length by omega)).1,fun hz=>⟨fun h=>entI_4 hlt hz h,fun h=>entI_ok hlt hz h⟩⟩)
        have HP0:=Lib.hid (show ¬0 < i→entErr1 base es[i]=0→entI base es i=0 from fun hp hz=>by
         obtain rfl:i=0:=by omega
         exact entI_0 hlt hz)
        have CE:=Lib.hid (fun W (hb':Below wr.heap.size wr W)=>ckEntry_any C cc E d es[i] base W (hC.below hb') (hE.below hb') z1 z2)
        clear hcell hE
        generalize entErr1 base es[i]=ev at *
        generalize es[i].elems=els at *
        generalize es[i].codes=cds at *
        generalize entI base es i=ei at *
        have hal:Below wr.heap.size wr (wr.alloc (.cells #[.slice C cds.length cc,.slice E els.length d] 75)):=(Below.refl _ _).alloc (Nat.le_refl _) _
        have m0:(wr.alloc (.cells #[.slice C cds.length cc,.slice E els.length d] 75)).cell? ⟨wr.heap.size,0,none⟩=some (.slice C cds.length cc):=by simp
        have HAL:=Lib.hid (And.intro hal m0)
        clear hal m0
        go_wp2_with fail
        refine (CE.out _ HAL.out.1).mono ?_
        rintro e w3 ⟨rfl,hb3⟩
        have hb4:=HAL.out.1.trans (hb3.mono (by simp))
        have hb5:=hb.trans (hb4.mono hb.size)
        have m1:=(hb3.cell (p:=⟨wr.heap.size,0,none⟩) (by simp)).trans HAL.out.2
        have f0':=(hb5.cell (p:=⟨w.heap.size,0,none⟩) hx0).trans K.out.1
        clear HAL hb3 CE c1 c2 f0 f2
        by_cases hev:ev=0
        ·have e1:(ev != 0)=false:=by simpa using hev
         by_cases hp:0 < i
         ·obtain ⟨D,dd,d1,hD,z3,hcmp⟩:=HPV.out hp
          have HCMP:=Lib.hid (hcmp hev)
          have d1':=(hb4.cell (p:=⟨b1,o1+(i - 1)*2,none⟩) (World.block_lt_of_cell? wr _ d1)).trans d1
          have CC:=Lib.hid (fun n=>cpCompare_any D C _ _ dd cc _ cds (w3.drewN n) (Sl.drewN (hD.below hb4) n) (Sl.drewN (hC.below hb4) n) rfl rfl (by omega) (by omega))
          clear hcmp hev E1 HPV HP0 hD d1
          generalize (es[i - 1]'(by omega)).codes=pcs at *
          generalize cmpL pcs cds=cv at *
          have i1:(0:Int)≤(i:Int) - 1:=by omega
          have i2:(i:Int) - 1 < (es.length:Int):=by omega
          have i3:((i:Int) - 1).toNat=i - 1:=by omega
          have w1:IntKind.i64.wrap ((i:Int) - 1)=(i:Int) - 1:=IntWalk.i64_in _ (by omega)
          by_cases hcv:0≤cv
          ·have q9:decide (0≤cv)=true:=by simpa using hcv
           have HV:=Lib.hid (HCMP.out.1 (by omega))
           clear hcv HCMP
           go_wp2_with fail
           go_quiet ((go_at_call 70;exact quiet_qt (CC.out _)))
           clear i3 w1
           go_wp2_with fail
           go_ret
           exact ⟨ret_int (by rw [HQ.out,HEE.out,ST.out,HV.out];rfl),B0.trans ((below_drewN hb5 _).mono B0.size)⟩
          ·have q9:decide (0≤cv)=false:=by simpa using hcv
           have HV:=Lib.hid (HCMP.out.2 (by omega))
           clear hcv HCMP
           go_wp2_with fail
           go_quiet ((go_at_call 70;exact quiet_qt (CC.out _)))
           clear i3 w1
           go_wp2_with fail
           go_roundw
           case rel=>exact ⟨i+1,by omega,by go_num,by rw [HEE.out,ST.out,HV.out];rfl,below_drewN hb5 _⟩
           case measure=>simp [intOf];omega
         ·have hp0:decide ((0:Int) < (i:Int))=false:=by simp;omega
          have HV:=Lib.hid (HP0.out hp hev)
          clear hev E1 HPV HP0
          go_wp2_with fail
          go_quiet (fail)
          go_wp2_with fail
          go_roundw
          case rel=>exact ⟨i+1,by omega,by go_num,by rw [HEE.out,ST.out,HV.out];rfl,below_drewN hb5 _⟩
          case measure=>simp [intOf];omega
        ·have e1:(ev != 0)=true:=by simpa using hev
         have HV:=Lib.hid (E1.out hev)
         have HZ:=Lib.hid hev
         clear hev E1 HPV HP0
         go_wp2_with fail
         go_ret
         exact ⟨ret_int (by rw [HQ.out,HEE.out,ST.out,HV.out,if_pos HZ.out]),B0.trans (hb5.mono B0.size)⟩
       ·have HF:=Lib.hid (ents_end base es i (by omega))
        go_wp2
        go_ret
        exact ⟨ret_int (by rw [HQ.out,HEE.out,HF.out]),B0.trans (hb.mono B0.size)⟩
     ·have g1:(grpErr base gs != 0)=true:=by simpa using hgz
      have HQ:=Lib.hid (HG'.out hgz)
      clear hgz HG' HE'
      generalize grpErr base gs=ge at *
      go_wp2_with fail
      go_ret
      exact ⟨ret_int HQ.out.symm,B0.trans (hb1.mono B0.size)⟩
end Go.Proofs.YtkhmjidaeliccaaGreatDoor
namespace Go.Proofs.YtkhmjidaeliccaaGreatDoor.Tl
open Go.RowKit
structure Tlr where
 anc:List Int
 cds:List Int
 lvl:Int
 bef:Bool
def kndT (t:Tlr):Bool:=decide (0≤t.lvl)&&decide (t.lvl≤3)&&(decide (0 < t.lvl) || !t.bef)
def rngT (zs:List Int):Bool:=!zs.isEmpty&&zs.all (fun c=>decide (0≤c)&&decide (c≤1114111))
end Go.Proofs.YtkhmjidaeliccaaGreatDoor.Tl
namespace Go.Proofs.YtkhmjidaeliccaaGreatDoor.Tl
open Go.RowKit
def wt (k:Int) (e:Elt):Int:=if k=1 then e.p else if k=2 then e.s else e.t
def setW (k:Int) (e:Elt) (x:Int):Elt:=if k=1 then ⟨x,e.s,e.t,e.v⟩ else if k=2 then ⟨e.p,x,e.t,e.v⟩ else if k=3 then ⟨e.p,e.s,x,e.v⟩ else e
def mvd (l x:Int):Int:=if l≤x then x+1 else x
def rsE (k l:Int) (e:Elt):Elt:=setW k e (mvd l (wt k e))
def rsEnt (k l:Int) (x:Ent):Ent:=⟨x.codes,x.elems.map (rsE k l)⟩
def rsG (k w:Int) (g:Grp):Grp:=if k=1 then ⟨g.name,mvd (w+1) g.lo,mvd w g.hi⟩ else g
def roomC (k w l:Int) (c:Col):Col:=⟨c.ents.map (rsEnt k l),c.grps.map (rsG k w),if k=1 then mvd l c.base else c.base,if k=2 then mvd l c.second else c.second,if k=3 then mvd l c.third else c.third⟩
def putE (es:List Ent) (x:Ent):List Ent:=es.filter (fun y=>decide (cmpL y.codes x.codes < 0))++x::es.filter (fun y=>decide (0 < cmpL y.codes x.codes))
def lstK (k:Int) (es:List Elt):Nat→Nat
 | 0=>0
 | n+1=>if wt k (es.getD n ⟨0,0,0,false⟩)≠0 then n+1 else lstK k es n
def lst (w:Int) (b:Bool):Int:=if b=true then w else w+1
def newE (k l:Int) (c:Col) (e:Elt):Elt:=if k=1 then ⟨l,c.second,c.third,e.v⟩ else if k=2 then ⟨e.p,l,c.third,e.v⟩ else ⟨e.p,e.s,l,e.v⟩
def bigE (e:Elt):Bool:=decide (65535 < e.p) || decide (65535 < e.s) || decide (65535 < e.t)
def overC (c:Col):Bool:=c.ents.any (fun x=>x.elems.any bigE) || (decide (65502 < c.base) || decide (65535 < c.second) || decide (65535 < c.third))
def atE (k:Int) (es:List Elt):Elt:=es.getD (lstK k es es.length - 1) ⟨0,0,0,false⟩
def atW (k:Int) (es:List Elt):Int:=wt k (atE k es)
def roomT (t:Tlr) (es:List Elt) (c:Col):Col:=roomC t.lvl (atW t.lvl es) (lst (atW t.lvl es) t.bef) c
def newL (t:Tlr) (es:List Elt) (c:Col):List Elt:=(es.take (lstK t.lvl es es.length - 1)).map (rsE t.lvl (lst (atW t.lvl es) t.bef))++[newE t.lvl (lst (atW t.lvl es) t.bef) (roomT t es c) (atE t.lvl es)]
def col0:Col:=⟨[],[],0,0,0⟩
def stepB (d:List Int) (kn:Bool) (es:List Elt) (c:Col) (t:Tlr):Int × Col:=
 if 8 < d.length then (2,col0)
 else if kn=false∨(0 < t.lvl∧lstK t.lvl es es.length=0) then (7,col0)
 else if t.lvl=0 then (if 16 < es.length then (2,col0) else (0,{ c with ents:=putE c.ents ⟨d,es⟩ }))
 else if 16 < lstK t.lvl es es.length then (2,col0)
 else if overC (roomT t es c)=true∨(newL t es c).any bigE=true then (13,col0)
 else (0,{ roomT t es c with ents:=putE (roomT t es c).ents ⟨d,newL t es c⟩ })
theorem mvd_nn {l x:Int} (h:0≤x):0≤mvd l x∧x≤mvd l x∧mvd l x≤x+1:=by unfold mvd;split <;> omega
theorem mvd_zero {l x:Int} (hl:1≤l):mvd l x=0 ↔ x=0∨(x=-1∧l≤-1):=by unfold mvd;split <;> omega
theorem mvd_lt {l x y:Int}:mvd l x < mvd l y ↔ x < y:=by unfold mvd;split <;> split <;> omega
theorem mvd_z {l:Int} (hl:1≤l):mvd l 0=0:=by unfold mvd;rw [if_neg (by omega)]
theorem mvd_pos {l x:Int} (h:1≤x):1≤mvd l x:=by unfold mvd;split <;> omega
theorem rsE_0 {k l:Int} (h:¬(k=1∨k=2∨k=3)) (e:Elt):rsE k l e=e:=by
 unfold rsE setW
 rw [if_neg (fun g=>h (.inl g)),if_neg (fun g=>h (.inr (.inl g))),if_neg (fun g=>h (.inr (.inr g)))]
theorem rsE_p (k l:Int) (e:Elt):(rsE k l e).p=if k=1 then mvd l e.p else e.p:=by
 unfold rsE setW wt
 by_cases h1:k=1
 ·simp [h1]
 ·by_cases h2:k=2
  ·simp [h2]
  ·by_cases h3:k=3
   ·simp [h3]
   ·simp [h1,h2,h3]
theorem rsE_s (k l:Int) (e:Elt):(rsE k l e).s=if k=2 then mvd l e.s else e.s:=by
 unfold rsE setW wt
 by_cases h1:k=1
 ·simp [h1]
 ·by_cases h2:k=2
  ·simp [h2]
  ·by_cases h3:k=3
   ·simp [h3]
   ·simp [h1,h2,h3]
theorem rsE_t (k l:Int) (e:Elt):(rsE k l e).t=if k=3 then mvd l e.t else e.t:=by
 unfold rsE setW wt
 by_cases h1:k=1
 ·simp [h1]
 ·by_cases h2:k=2
  ·simp [h2]
  ·by_cases h3:k=3
   ·simp [h3]
   ·simp [h1,h2,h3]
theorem rsE_v (k l:Int) (e:Elt):(rsE k l e).v=e.v:=by
 unfold rsE setW wt
 by_cases h1:k=1
 ·simp [h1]
 ·by_cases h2:k=2
  ·simp [h2]
  ·by_cases h3:k=3
   ·simp [h3]
   ·simp [h1,h2,h3]
structure EOk (e:Elt):Prop where
 p0:0≤e.p
 p1:e.p≤65535
 s0:0≤e.s
 s1:e.s≤65535
 t0:0≤e.t
 t1:e.t≤65535
 ps:e.p≠0→e.s≠0
 st:e.s≠0→e.t≠0
 vp:e.v=true→e.p≠0
theorem eok_iff (e:Elt):eltErr e=0 ↔ EOk e:=by
 unfold eltErr
 constructor
 ·intro h
  split at h
  ·cases h
  ·next h1=>
   split at h
   ·cases h
   ·next h2=>
    refine ⟨by omega,by omega,by omega,by omega,by omega,by omega,fun g=>?_,fun g=>?_,fun g=>?_⟩
    ·intro e0;exact h2 (.inl ⟨g,.inl e0⟩)
    ·intro e0;exact h2 (.inr (.inl ⟨g,e0⟩))
    ·intro e0;exact h2 (.inr (.inr ⟨g,e0⟩))
 ·intro h
  have:=h.p0;have:=h.p1;have:=h.s0;have:=h.s1;have:=h.t0;have:=h.t1
  rw [if_neg (by omega),if_neg]
  rintro (⟨g,g1 | g1⟩ | ⟨g,g1⟩ | ⟨g,g1⟩)
  ·exact h.ps g g1
  ·exact h.st (h.ps g) g1
  ·exact h.st g g1
  ·exact h.vp g g1
theorem bigE_false {e:Elt} (h:bigE e=false):e.p≤65535∧e.s≤65535∧e.t≤65535:=by
 unfold bigE at h
 simp at h
 omega
theorem rsE_ok {k l:Int} (hl:1≤l) {e:Elt} (h:EOk e) (hb:bigE (rsE k l e)=false):EOk (rsE k l e):=by
 obtain ⟨b1,b2,b3⟩:=bigE_false hb
 have hp:=h.p0;have hs:=h.s0;have ht:=h.t0
 have q1:(rsE k l e).p=0 ↔ e.p=0:=by rw [rsE_p];split;(rw [mvd_zero hl];omega);exact Iff.rfl
 have q2:(rsE k l e).s=0 ↔ e.s=0:=by rw [rsE_s];split;(rw [mvd_zero hl];omega);exact Iff.rfl
 have q3:(rsE k l e).t=0 ↔ e.t=0:=by rw [rsE_t];split;(rw [mvd_zero hl];omega);exact Iff.rfl
 refine ⟨?_,b1,?_,b2,?_,b3,fun g=>?_,fun g=>?_,fun g=>?_⟩
 ·rw [rsE_p];split;exact (mvd_nn hp).1;exact hp
 ·rw [rsE_s];split;exact (mvd_nn hs).1;exact hs
 ·rw [rsE_t];split;exact (mvd_nn ht).1;exact ht
 ·rw [Ne,q2];exact h.ps (by rw [Ne,q1] at g;exact g)
 ·rw [Ne,q3];exact h.st (by rw [Ne,q2] at g;exact g)
 ·rw [rsE_v] at g
  rw [Ne,q1];exact h.vp g
theorem lstK_le (k:Int) (es:List Elt):∀n,lstK k es n≤n
 | 0=>Nat.le_refl _
 | n+1=>by unfold lstK;split;exact Nat.le_refl _;exact Nat.le_succ_of_le (lstK_le k es n)
theorem lstK_at {k:Int} {es:List Elt}:∀{n},0 < lstK k es n→wt k (es.getD (lstK k es n - 1) ⟨0,0,0,false⟩)≠0
 | 0,h=>by simp [lstK] at h
 | n+1,h=>by
  unfold lstK at h ⊢
  split
  ·next h1=>exact h1
  ·next h1=>rw [if_neg h1] at h;exact lstK_at h
end Go.Proofs.YtkhmjidaeliccaaGreatDoor.Tl
namespace Go.Proofs.YtkhmjidaeliccaaGreatDoor
open Go.RowKit
section
variable {P:Program} {ops:Array Oper} {Q:Exit→Act→World→Prop} {md:Region.Mode} {S:World→Prop}
theorem anyH_unit {i:Nat} {oi:Oper} {fuel:Nat} {listed:Array Bool} {a:Act} {w w':World} (d:Option Tmp) (hi:ops[i]?=some oi) (hd:oi.dst=d)
  (hr:Region.ready md ops listed=[i]) (hw:Region.wanted oi (yielded ops a.tmps)=true) (he:(execOp a.eval oi).run P w=.ok .skip w') (hS:S w')
  (h:wpAnyH P md ops Q S fuel (listed.setIfInBounds i true) (a.put d undef) w'):wpAnyH P md ops Q S (fuel+1) listed a w:=by
 subst hd
 refine anyH_do hi hr hw (fun K hK=>?_)
 unfold Oper.wp
 rw [he]
 simp only [Oper.upon]
 exact hK.out _ _ hS (fun _=>h)
end
section
variable {P:Program} {w:World}
end
end Go.Proofs.YtkhmjidaeliccaaGreatDoor
namespace Go.Proofs.YtkhmjidaeliccaaGreatDoor
open Go.RowKit Go.Maps Go.WideMaps Tl
theorem known_ok_any (A:Option Addr) (na ca:Nat) (B:Option Addr) (nb cb:Nat) (t:Tlr) (w:World) :
  Calls Tryz.prog 74 #[.agg #[.slice A na ca,.slice B nb cb,.int .i64 t.lvl,.bool t.bef]] w (RetInt (if kndT t=true then 0 else 8) w):=by
 obtain ⟨an,cd,lvl,bef⟩:=t
 have HE0:=Lib.hid (show kndT ⟨an,cd,lvl,bef⟩=(decide (0≤lvl)&&decide (lvl≤3)&&(decide (0 < lvl) || !bef)) from rfl)
 have B0:Below w.heap.size w (w.alloc (.cells #[.slice A na ca,.slice B nb cb,.int .i64 lvl,.bool bef] 35)):=(Below.refl _ _).alloc (Nat.le_refl _) _
 obtain ⟨r,hr⟩:∃r:Int,(if kndT ⟨an,cd,lvl,bef⟩=true then 0 else 8)=r:=⟨_,rfl⟩
 have HE:=Lib.hid (show ∀b,(decide (0≤lvl)&&decide (lvl≤3)&&(decide (0 < lvl) || !bef))=b→r=if b=true then 0 else 8 from fun b hb=>by rw [←hr,HE0.out,hb])
 rw [hr]
 clear hr HE0
 dsimp only
 by_cases h1:lvl < 0
 ·have d1:decide (lvl < 0)=true:=by simpa using h1
  have HK:=Lib.hid (show r=8 from HE.out false (by rw [decide_eq_false (by omega:¬0≤lvl)];rfl))
  clear HE
  go_enter Tryz.func74,Tryz.ntmps74
  go_wp2_with fail
  go_ret
  rw [HK.out]
  exact ⟨rfl,B0⟩
 ·have d1:decide (lvl < 0)=false:=by simpa using h1
  by_cases h2:3 < lvl
  ·have d2:decide (3 < lvl)=true:=by simpa using h2
   have HK:=Lib.hid (show r=8 from HE.out false (by rw [decide_eq_false (by omega:¬lvl≤3),Bool.and_false];rfl))
   clear HE
   go_enter Tryz.func74,Tryz.ntmps74
   go_wp2_with fail
   go_ret
   rw [HK.out]
   exact ⟨rfl,B0⟩
  ·have d2:decide (3 < lvl)=false:=by simpa using h2
   have HE2:=Lib.hid (show ∀b,(decide (0 < lvl) || !bef)=b→r=if b=true then 0 else 8 from fun b hb=>HE.out b (by rw [decide_eq_true (by omega:0≤lvl),decide_eq_true (by omega:lvl≤3)];exact hb))
   clear HE
   cases bef with
   | false=>
    have HK:=Lib.hid (show r=0 from HE2.out true (by simp))
    clear HE2
    go_enter Tryz.func74,Tryz.ntmps74
    go_wp2_with fail
    go_ret
    rw [HK.out]
    exact ⟨rfl,B0⟩
   | true=>
    by_cases h3:lvl=0
    ·have d3:(lvl==0)=true:=by simpa using h3
     have HK:=Lib.hid (show r=8 from HE2.out false (by rw [decide_eq_false (by omega:¬0 < lvl)];rfl))
     clear HE2 h3
     go_enter Tryz.func74,Tryz.ntmps74
     go_wp2_with fail
     go_ret
     rw [HK.out]
     exact ⟨rfl,B0⟩
    ·have d3:(lvl==0)=false:=by simpa using h3
     have HK:=Lib.hid (show r=0 from HE2.out true (by rw [decide_eq_true (by omega:0 < lvl)];rfl))
     clear HE2
     go_enter Tryz.func74,Tryz.ntmps74
     go_wp2_with fail
     go_ret
     rw [HK.out]
     exact ⟨rfl,B0⟩
theorem weight_any (e:Elt) (k:Int) (hk:k=1∨k=2∨k=3) (w:World) :
  Calls Tryz.prog 39 #[.agg #[.int .i64 e.p,.int .i64 e.s,.int .i64 e.t,.bool e.v],.int .i64 k] w (RetInt (wt k e) w):=by
 obtain ⟨p,s,t,v⟩:=e
 have x0:=fun W=>(idx3 (.int .i64 p) (.int .i64 s) (.int .i64 t) W).1
 have x1:=fun W=>(idx3 (.int .i64 p) (.int .i64 s) (.int .i64 t) W).2.1
 have x2:=fun W=>(idx3 (.int .i64 p) (.int .i64 s) (.int .i64 t) W).2.2
 have BEL:=Lib.hid ((Below.refl w.heap.size w).alloc (Nat.le_refl _) (.cells #[.int .i64 p,.int .i64 s,.int .i64 t,.bool v] 77))
 dsimp only
 rcases hk with rfl | rfl | rfl
 ·go_enter Tryz.func39,Tryz.ntmps39
  go_wp2_with fail
  go_ret
  exact ⟨rfl,BEL.out⟩
 ·go_enter Tryz.func39,Tryz.ntmps39
  go_wp2_with fail
  go_ret
  exact ⟨rfl,BEL.out⟩
 ·go_enter Tryz.func39,Tryz.ntmps39
  go_wp2_with fail
  go_ret
  exact ⟨rfl,BEL.out⟩
theorem raised_any (z:Int) (b:Bool) (x:Int) (w:World) (hx:0≤x∧x≤1000000):Calls Tryz.prog 92 #[.agg #[.int .i64 z,.bool b],.int .i64 x] w (RetInt (mvd (lst z b) x) w):=by
 have BEL:=Lib.hid ((Below.refl w.heap.size w).alloc (Nat.le_refl _) (.cells #[.int .i64 z,.bool b] 85))
 obtain ⟨hx0,hx1⟩:=hx
 obtain ⟨r,hr⟩:∃r,mvd (lst z b) x=r:=⟨_,rfl⟩
 have HR:=Lib.hid (show r=if lst z b≤x then x+1 else x from hr.symm)
 rw [hr]
 clear hr
 by_cases h1:z < x
 ·have d1:decide (z < x)=true:=by simpa using h1
  have HF:=Lib.hid (show r=x+1 from by rw [HR.out,if_pos (by unfold lst;split <;> omega)])
  clear HR
  go_enter Tryz.func92,Tryz.ntmps92
  go_wp2_with fail
  go_ret
  rw [HF.out]
  exact ⟨rfl,BEL.out⟩
 ·have d1:decide (z < x)=false:=by simpa using h1
  cases b with
  | false=>
   have HF:=Lib.hid (show r=x from by rw [HR.out,if_neg (by unfold lst;rw [if_neg (by decide)];omega)])
   clear HR
   go_enter Tryz.func92,Tryz.ntmps92
   go_wp2_with fail
   go_ret
   rw [HF.out]
   exact ⟨rfl,BEL.out⟩
  | true=>
   by_cases h2:x=z
   ·have d2:(x==z)=true:=by simpa using h2
    have HF:=Lib.hid (show r=x+1 from by rw [HR.out,if_pos (by unfold lst;rw [if_pos rfl];omega)])
    clear HR h2
    go_enter Tryz.func92,Tryz.ntmps92
    go_wp2_with fail
    go_ret
    rw [HF.out]
    exact ⟨rfl,BEL.out⟩
   ·have d2:(x==z)=false:=by simpa using h2
    have HF:=Lib.hid (show r=x from by rw [HR.out,if_neg (by unfold lst;rw [if_pos rfl];omega)])
    clear HR
    go_enter Tryz.func92,Tryz.ntmps92
    go_wp2_with fail
    go_ret
    rw [HF.out]
    exact ⟨rfl,BEL.out⟩
theorem own_any (z:Int) (b:Bool) (w:World) (hx:0≤z∧z≤1000000):Calls Tryz.prog 95 #[.agg #[.int .i64 z,.bool b]] w (RetInt (lst z b) w):=by
 have BEL:=Lib.hid ((Below.refl w.heap.size w).alloc (Nat.le_refl _) (.cells #[.int .i64 z,.bool b] 85))
 obtain ⟨hx0,hx1⟩:=hx
 cases b with
 | false=>
  go_enter Tryz.func95,Tryz.ntmps95
  go_wp2_with fail
  go_ret
  exact ⟨rfl,BEL.out⟩
 | true=>
  go_enter Tryz.func95,Tryz.ntmps95
  go_wp2_with fail
  go_ret
  exact ⟨rfl,BEL.out⟩
theorem primary_any (z:Int) (b:Bool) (d o:Nat) (x:Int) (w:World) (hx:0≤x∧x≤1000000) (hc:w.cell? ⟨d,o,none⟩=some (.int .i64 x)) (hf:w.frozen? ⟨d,o,none⟩=false) :
  Calls Tryz.prog 91 #[.agg #[.int .i64 z,.bool b],.pointer (some ⟨d,o,none⟩)] w fun e w'=>e=.returned (.tuple #[])∧∃w1,Below w.heap.size w w1∧w'=w1.setCell ⟨d,o,none⟩ (.int .i64 (mvd (lst z b) x)):=by
 have hd:d < w.heap.size:=World.block_lt_of_cell? w ⟨d,o,none⟩ hc
 have B0:Below w.heap.size w (w.alloc (.cells #[.int .i64 z,.bool b] 85)):=(Below.refl _ _).alloc (Nat.le_refl _) _
 have X0:Box (w.alloc (.cells #[.int .i64 z,.bool b] 85)) w.heap.size 85 [.int .i64 z,.bool b]:=Box.new _ _ _ rfl
 have W0E:∃W0,(w.alloc (.cells #[.int .i64 z,.bool b] 85))=W0:=⟨_,rfl⟩
 have KR:=Lib.hid (fun W=>raised_any z b x W hx)
 unfold RetInt at KR
 obtain ⟨y,hy⟩:∃y,mvd (lst z b) x=y:=⟨_,rfl⟩
 rw [hy] at KR ⊢
 clear hy hx
 go_enter Tryz.func91,Tryz.ntmps91
 go_upto_region 1 with (fail)
 obtain ⟨W0,hW0⟩:=W0E
 try rw [hW0] at B0 X0 ⊢
 clear hW0
 have c0:=X0.cell (i:=0) rfl
 have c1:=X0.cell (i:=1) rfl
 have l0:=X0.lt
 have c2:=(B0.cell (p:=⟨d,o,none⟩) hd).trans hc
 have c3:=(B0.frozen (p:=⟨d,o,none⟩) hd).trans hf
 have hd0:d < W0.heap.size:=by have:=B0.size;omega
 have KR2:=Lib.hid (fun W=>KR.out W)
 clear hc hf X0 KR
 go_region_with (go_at_call 92;refine (KR2.out _).mono ?_;rintro e w2 ⟨rfl,hb2⟩;have g2:=(hb2.cell (p:=⟨d,o,none⟩) hd0).trans c2;have g3:=(hb2.frozen (p:=⟨d,o,none⟩) hd0).trans c3)
 all_goals (
  have hbf:=B0.trans (((show Below W0.heap.size W0 W0.drew from (Below.refl _ _).drew).trans hb2).mono B0.size)
  clear hb2 g2 g3 c0 c1 c2 c3 KR2
  go_wp2_with fail
  go_end0
  exact ⟨rfl,_,hbf,rfl⟩)
theorem secondary_any (z:Int) (b:Bool) (d o:Nat) (x:Int) (w:World) (hx:0≤x∧x≤1000000) (hc:w.cell? ⟨d,o+1,none⟩=some (.int .i64 x)) (hf:w.frozen? ⟨d,o+1,none⟩=false) :
  Calls Tryz.prog 93 #[.agg #[.int .i64 z,.bool b],.pointer (some ⟨d,o,none⟩)] w fun e w'=>e=.returned (.tuple #[])∧∃w1,Below w.heap.size w w1∧w'=w1.setCell ⟨d,o+1,none⟩ (.int .i64 (mvd (lst z b) x)):=by
 have hd:d < w.heap.size:=World.block_lt_of_cell? w ⟨d,o+1,none⟩ hc
 have B0:Below w.heap.size w (w.alloc (.cells #[.int .i64 z,.bool b] 85)):=(Below.refl _ _).alloc (Nat.le_refl _) _
 have X0:Box (w.alloc (.cells #[.int .i64 z,.bool b] 85)) w.heap.size 85 [.int .i64 z,.bool b]:=Box.new _ _ _ rfl
 have W0E:∃W0,(w.alloc (.cells #[.int .i64 z,.bool b] 85))=W0:=⟨_,rfl⟩
 have KR:=Lib.hid (fun W=>raised_any z b x W hx)
 unfold RetInt at KR
 obtain ⟨y,hy⟩:∃y,mvd (lst z b) x=y:=⟨_,rfl⟩
 rw [hy] at KR ⊢
 clear hy hx
 go_enter Tryz.func93,Tryz.ntmps93
 go_upto_region 1 with (fail)
 obtain ⟨W0,hW0⟩:=W0E
 try rw [hW0] at B0 X0 ⊢
 clear hW0
 have c0:=X0.cell (i:=0) rfl
 have c1:=X0.cell (i:=1) rfl
 have l0:=X0.lt
 have c2:=(B0.cell (p:=⟨d,o+1,none⟩) hd).trans hc
 have c3:=(B0.frozen (p:=⟨d,o+1,none⟩) hd).trans hf
 have hd0:d < W0.heap.size:=by have:=B0.size;omega
 have KR2:=Lib.hid (fun W=>KR.out W)
 clear hc hf X0 KR
 go_region_with (go_at_call 92;refine (KR2.out _).mono ?_;rintro e w2 ⟨rfl,hb2⟩;have g2:=(hb2.cell (p:=⟨d,o+1,none⟩) hd0).trans c2;have g3:=(hb2.frozen (p:=⟨d,o+1,none⟩) hd0).trans c3)
 all_goals (
  have hbf:=B0.trans (((show Below W0.heap.size W0 W0.drew from (Below.refl _ _).drew).trans hb2).mono B0.size)
  clear hb2 g2 g3 c0 c1 c2 c3 KR2
  go_wp2_with fail
  go_end0
  exact ⟨rfl,_,hbf,rfl⟩)
theorem tertiary_any (z:Int) (b:Bool) (d o:Nat) (x:Int) (w:World) (hx:0≤x∧x≤1000000) (hc:w.cell? ⟨d,o+2,none⟩=some (.int .i64 x)) (hf:w.frozen? ⟨d,o+2,none⟩=false) :
  Calls Tryz.prog 94 #[.agg #[.int .i64 z,.bool b],.pointer (some ⟨d,o,none⟩)] w fun e w'=>e=.returned (.tuple #[])∧∃w1,Below w.heap.size w w1∧w'=w1.setCell ⟨d,o+2,none⟩ (.int .i64 (mvd (lst z b) x)):=by
 have hd:d < w.heap.size:=World.block_lt_of_cell? w ⟨d,o+2,none⟩ hc
 have B0:Below w.heap.size w (w.alloc (.cells #[.int .i64 z,.bool b] 85)):=(Below.refl _ _).alloc (Nat.le_refl _) _
 have X0:Box (w.alloc (.cells #[.int .i64 z,.bool b] 85)) w.heap.size 85 [.int .i64 z,.bool b]:=Box.new _ _ _ rfl
 have W0E:∃W0,(w.alloc (.cells #[.int .i64 z,.bool b] 85))=W0:=⟨_,rfl⟩
 have KR:=Lib.hid (fun W=>raised_any z b x W hx)
 unfold RetInt at KR
 obtain ⟨y,hy⟩:∃y,mvd (lst z b) x=y:=⟨_,rfl⟩
 rw [hy] at KR ⊢
 clear hy hx
 go_enter Tryz.func94,Tryz.ntmps94
 go_upto_region 1 with (fail)
 obtain ⟨W0,hW0⟩:=W0E
 try rw [hW0] at B0 X0 ⊢
 clear hW0
 have c0:=X0.cell (i:=0) rfl
 have c1:=X0.cell (i:=1) rfl
 have l0:=X0.lt
 have c2:=(B0.cell (p:=⟨d,o+2,none⟩) hd).trans hc
 have c3:=(B0.frozen (p:=⟨d,o+2,none⟩) hd).trans hf
 have hd0:d < W0.heap.size:=by have:=B0.size;omega
 have KR2:=Lib.hid (fun W=>KR.out W)
 clear hc hf X0 KR
 go_region_with (go_at_call 92;refine (KR2.out _).mono ?_;rintro e w2 ⟨rfl,hb2⟩;have g2:=(hb2.cell (p:=⟨d,o+2,none⟩) hd0).trans c2;have g3:=(hb2.frozen (p:=⟨d,o+2,none⟩) hd0).trans c3)
 all_goals (
  have hbf:=B0.trans (((show Below W0.heap.size W0 W0.drew from (Below.refl _ _).drew).trans hb2).mono B0.size)
  clear hb2 g2 g3 c0 c1 c2 c3 KR2
  go_wp2_with fail
  go_end0
  exact ⟨rfl,_,hbf,rfl⟩)
end Go.Proofs.YtkhmjidaeliccaaGreatDoor
namespace Go.Proofs.YtkhmjidaeliccaaGreatDoor
open Go.RowKit
def Blk (w:World) (b:Nat) (e:TypeId) (pre cs post:List Value):Prop:=w.heap[b]?=some (.cells (pre++cs++post).toArray e (0,0))
def Row (w:World) (b off:Nat) (e:TypeId) (pre post:List Value) (d:List Int):Prop:=pre.length=off∧Blk w b e pre (d.map (Value.int .i64)) post
section
variable {w w':World} {b off:Nat} {e:TypeId} {pre post:List Value} {d:List Int}
theorem Blk.lt {cs:List Value} (h:Blk w b e pre cs post):b < w.heap.size:=(Array.getElem?_eq_some_iff.1 h).1
theorem Row.lt (h:Row w b off e pre post d):b < w.heap.size:=Blk.lt h.2
theorem Row.cell (h:Row w b off e pre post d) {i:Nat} {x:Int} (hi:d[i]?=some x):w.cell? ⟨b,off+i,none⟩=some (.int .i64 x):=by
 rw [cell_of_row w b (off+i) _ e (0,0) h.2]
 have hl:i < d.length:=(List.getElem?_eq_some_iff.1 hi).1
 rw [List.getElem?_toArray,List.append_assoc,List.getElem?_append_right (by have:=h.1;omega),List.getElem?_append_left (by simp;have:=h.1;omega),List.getElem?_map]
 rw [show off+i - pre.length=i by have:=h.1;omega,hi]
 rfl
theorem Row.frozen (h:Row w b off e pre post d) (i:Nat):w.frozen? ⟨b,i,none⟩=false:=by
 have h2:=h.2
 unfold Blk at h2
 simp [World.frozen?,h2]
theorem Row.set (h:Row w b off e pre post d) {i:Nat} (hi:i < d.length) (v:Int):Row (w.setCell ⟨b,off+i,none⟩ (.int .i64 v)) b off e pre post (d.set i v):=by
 refine ⟨h.1,?_⟩
 have h2:=h.2
 have h1:=h.1
 unfold Blk at h2 ⊢
 simp only [World.setCell,Array.getElem?_modify,h2]
 simp only [if_true,Option.map_some,Option.some.injEq,Obj.cells.injEq,and_true]
 apply Array.ext'
 simp only [Option.isSome_none,Bool.false_eq_true,if_false,Array.toList_setIfInBounds,List.map_set]
 rw [List.append_assoc,List.set_append_right _ _ (by omega),List.set_append_left _ _ (by simp;omega),show off+i - pre.length=i by omega,←List.append_assoc]
theorem Row.keep (h:Row w b off e pre post d) (hb:w'.heap[b]?=w.heap[b]?):Row w' b off e pre post d:=⟨h.1,hb.trans h.2⟩
theorem Row.drewN (h:Row w b off e pre post d) (n:Nat):Row (w.drewN n) b off e pre post d:=h
theorem Row.drew (h:Row w b off e pre post d):Row w.drew b off e pre post d:=h
theorem Row.below (h:Row w b off e pre post d) (hb:Below w.heap.size w w'):Row w' b off e pre post d:=h.keep (hb.block b h.lt)
theorem grownR_refl (w:World) (r:Option Nat):w.grownBy w r:=⟨rfl,rfl,rfl,Nat.le_refl _,fun _ _ _=>rfl⟩
theorem grownR_trans {a c:World} {r:Option Nat} (h:a.grownBy w r) (g:w.grownBy c r):a.grownBy c r:=
 ⟨g.os.trans h.os,g.tape.trans h.tape,g.output.trans h.output,Nat.le_trans h.size g.size,fun k hk hne=>(g.block k (Nat.lt_of_lt_of_le hk h.size) hne).trans (h.block k hk hne)⟩
theorem grownR_below {a:World} {r:Option Nat} (h:a.grownBy w r) (g:Below w.heap.size w w'):a.grownBy w' r:=
 grownR_trans h ⟨g.os,g.tape,g.output,g.size,fun k hk _=>g.block k hk⟩
theorem grownR_drewN {a:World} {r:Option Nat} (h:a.grownBy w r) (n:Nat):a.grownBy (w.drewN n) r:=grownR_below h (below_of_drewN w n)
theorem grownR_drew {a:World} {r:Option Nat} (h:a.grownBy w r):a.grownBy w.drew r:=grownR_below h (below_of_drewN w 1)
theorem grown_row {a:World} (h:a.grownBy w (some b)) (i:Nat) (v:Value):a.grownBy (w.setCell ⟨b,i,none⟩ v) (some b):=
 grownR_trans h ⟨rfl,rfl,rfl,by simp [World.setCell],fun k _ hne=>Below.heap_setCell _ _ _ _ (by rintro rfl;exact hne rfl)⟩
end
end Go.Proofs.YtkhmjidaeliccaaGreatDoor
