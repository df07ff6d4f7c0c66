/- Texts that are merged into one file: SortFnE, Cmp, OSortA, OSortPlain3, OCanon, HgPlain, HgKinds, HgComps, HgDecs, OSortB, SkRev, KeyPlain, OptCk, SkTreat, Map. -/
import Derived.Test.YtkhmjidaeliccaaGreatDoorB01
import Derived.Test.YtkhmjidaeliccaaGreatDoorB02
import Derived.Test.YtkhmjidaeliccaaGreatDoorB03
import Derived.Test.YtkhmjidaeliccaaGreatDoorB05
import Derived.Test.YtkhmjidaeliccaaGreatDoorB06
import Derived.Test.YtkhmjidaeliccaaGreatDoorProg
import Derived.Outline
import Derived.Deep.RegionWith
import Derived.WalkKit
import Derived.WalkLawsBesides
import Derived.Lib.Hide
set_option maxRecDepth 100000
set_option maxHeartbeats 51200000
namespace Go.Proofs.YtkhmjidaeliccaaGreatDoor
open Go.RowKit
theorem stable_any (b B off n c:Nat) (e:TypeId) (key:Int→Int) (d:List Int) (pre post:List Value) (w:World) (hR:Row w b off e pre post d) (hn:d.length=n) (hbig:n≤1099511627776) (hC:Cmps b B w key) :
  Calls Tryz.prog 167 #[.slice (some ⟨b,off,none⟩) n c,.int .i64 n,.func (.func 123) #[] #[.pointer (some ⟨B,0,none⟩)]] w
   (RetRow (fun d'=>Srt.Done key d d' 0 n) b off e pre post w):=by
 subst hn
 have HC:=Lib.hid hC;clear hC
 go_enter Tryz.func167,Tryz.ntmps167
 go_wp2
 go_loopw [7,8] (fun u v wr=>∃(q a:Nat) (d1:List Int),a=q*20∧a≤d.length∧u=.int .i64 a∧v=.int .i64 ((a:Int)+20)∧Srt.Same d d1 0 d.length∧Srt.St key d d1∧Srt.Pf key d1 20 q∧Row wr b off e pre post d1∧w.grownBy wr (some b))
  (fun u _ _=>d.length - (intOf u).toNat)
 case atStart=>exact ⟨0,0,d,rfl,Nat.zero_le _,rfl,rfl,Srt.Same.refl _ _ _,Srt.St.refl _,Srt.Pf.zero,hR,grownR_refl _ _⟩
 case round=>
  obtain ⟨q,a,d1,haq,han,rfl,rfl,hsame,hst,hpf,hR1,hg⟩:=hrel
  have HQ:=Lib.hid haq;have HA:=Lib.hid hsame;have HT:=Lib.hid hst;have HP:=Lib.hid hpf
  clear haq hsame hst hpf
  by_cases hlt:a+20≤d.length
  ·have C:=Lib.hid (insertion_any b B off d.length c a (a+20) e key d1 pre post wr hR1 HA.out.1 (by omega) hlt hbig (HC.out.later hg))
   rw [show ((a+20:Nat):Int)=(a:Int)+20 by omega] at C
   go_wp2_with fail
   refine C.out.mono ?_
   rintro e W1 ⟨rfl,d2,hD,hR2,hg2⟩
   go_wp2_with fail
   go_roundw
   case rel=>
    refine ⟨q+1,a+20,d2,by rw [HQ.out];omega,hlt,by go_num,by go_num,HA.out.trans (hD.1.mono (Nat.zero_le _) hlt),HT.out.trans hD.2.1,?_,hR2,grownR_trans hg hg2⟩
    have:=HQ.out
    subst this
    exact HP.out.succ hD.1 hD.2.2
   case measure=>simp [intOf];omega
  ·have C:=Lib.hid (insertion_any b B off d.length c a d.length e key d1 pre post wr hR1 HA.out.1 han (Nat.le_refl _) hbig (HC.out.later hg))
   go_wp2_with fail
   refine C.out.mono ?_
   rintro e W1 ⟨rfl,d2,hD,hR2,hg2⟩
   have hB0:Srt.Bl key d2 20 0 d.length:=by
    have:=HQ.out
    subst this
    exact Srt.Bl.of_pf HP.out han (by omega) hD.1 hD.2.2
   have HA2:=Lib.hid (HA.out.trans (hD.1.mono (Nat.zero_le _) (Nat.le_refl _)))
   have HT2:=Lib.hid (HT.out.trans hD.2.1)
   have HB:=Lib.hid hB0
   have hg3:=grownR_trans hg hg2
   clear hB0 hD hg hg2 HA HT HP HQ hR1 C
   go_wp2_with fail
   go_loopw [6] (fun u wr=>∃(bs:Nat) (d3:List Int),20≤bs∧bs≤2199023255552∧u=.int .i64 bs∧Srt.Same d d3 0 d.length∧Srt.St key d d3∧Srt.Bl key d3 bs 0 d.length∧Row wr b off e pre post d3∧w.grownBy wr (some b)) (fun u _=>d.length - (intOf u).toNat)
   case atStart=>exact ⟨20,d2,Nat.le_refl _,by omega,rfl,HA2.out,HT2.out,HB.out,hR2,hg3⟩
   case round=>
    obtain ⟨bs,d3,hbs,hbs2,rfl,hsame,hst,hbl,hR3,hg4⟩:=hrel
    have HA3:=Lib.hid hsame;have HT3:=Lib.hid hst;have HB3:=Lib.hid hbl
    clear hsame hst hbl HA2 HT2 HB hR2 hg3
    by_cases hlt2:bs < d.length
    ·obtain ⟨wo,rfl⟩:∃wo:World,wo=wr:=⟨_,rfl⟩
     go_wp2_with fail
     go_loopw [7,8] (fun u v wr=>∃(q a:Nat) (d4:List Int),a=q*(2*bs)∧a≤d.length∧u=.int .i64 a∧v=.int .i64 ((a:Int)+2*(bs:Int))∧Srt.Same d d4 0 d.length∧Srt.St key d d4∧Srt.Pf key d4 (2*bs) q∧Srt.Bl key d4 bs a d.length∧
       Row wr b off e pre post d4∧w.grownBy wr (some b)) (fun u _ _=>d.length - (intOf u).toNat)
     case atStart=>exact ⟨0,0,d3,by simp,Nat.zero_le _,rfl,by go_num,HA3.out,HT3.out,Srt.Pf.zero,HB3.out,hR3,hg4⟩
     case round=>
      obtain ⟨q,a,d4,haq,han,rfl,rfl,hsame,hst,hpf,hbl,hR4,hg5⟩:=hrel
      have HQ:=Lib.hid haq;have HA:=Lib.hid hsame;have HT:=Lib.hid hst;have HP:=Lib.hid hpf;have HB:=Lib.hid hbl
      clear haq hsame hst hpf hbl HA3 HT3 HB3 hR3 hg4
      have s1:Srt.SortedOn key d4 a (min (a+bs) d.length):=HB.out.first
      have s2:Srt.SortedOn key d4 (a+bs) (min (a+bs+bs) d.length):=HB.out.next.first
      have S1:=Lib.hid s1;have S2:=Lib.hid s2;clear s1 s2
      by_cases hlt3:a+2*bs≤d.length
      ·have C:=Lib.hid (sym_any b B off d.length c e key pre post _ a (a+bs) (a+2*bs) d4 wr (Nat.le_refl _) hR4 HA.out.1 (by omega) (by omega) hlt3 hbig (HC.out.later hg5)
        (S1.out.sub (Nat.le_refl _) (by omega)) (S2.out.sub (Nat.le_refl _) (by omega)))
       rw [show ((a+bs:Nat):Int)=(a:Int)+(bs:Int) by omega,show ((a+2*bs:Nat):Int)=(a:Int)+2*(bs:Int) by omega] at C
       go_wp2_with fail
       refine C.out.mono ?_
       rintro e W4 ⟨rfl,d5,hD,hR5,hg6⟩
       go_wp2_with fail
       go_roundw
       case rel=>
        refine ⟨q+1,a+2*bs,d5,by rw [HQ.out,Nat.add_mul,Nat.one_mul],hlt3,by go_num,by go_num,HA.out.trans (hD.1.mono (Nat.zero_le _) hlt3),HT.out.trans hD.2.1,?_,?_,hR5,grownR_trans hg5 hg6⟩
        ·have:=HQ.out
         subst this
         exact HP.out.succ hD.1 hD.2.2
        ·have:=HB.out.next.next
         rw [show a+bs+bs=a+2*bs by omega] at this
         exact this.same hD.1 (Nat.le_refl _)
       case measure=>simp [intOf];omega
      ·by_cases hlt4:a+bs < d.length
       ·have C:=Lib.hid (sym_any b B off d.length c e key pre post _ a (a+bs) d.length d4 wr (Nat.le_refl _) hR4 HA.out.1 (by omega) hlt4 (Nat.le_refl _) hbig (HC.out.later hg5)
         (S1.out.sub (Nat.le_refl _) (by omega)) (S2.out.sub (Nat.le_refl _) (by omega)))
        rw [show ((a+bs:Nat):Int)=(a:Int)+(bs:Int) by omega] at C
        go_wp2_with fail
        refine C.out.mono ?_
        rintro e W4 ⟨rfl,d5,hD,hR5,hg6⟩
        go_wp2_with fail
        go_roundw
        case rel=>
         refine ⟨bs*2,d5,by omega,by omega,by go_num,HA.out.trans (hD.1.mono (Nat.zero_le _) (Nat.le_refl _)),HT.out.trans hD.2.1,?_,hR5,grownR_trans hg5 hg6⟩
         have:=HQ.out
         subst this
         rw [Nat.mul_comm bs 2]
         exact Srt.Bl.of_pf HP.out han (by omega) hD.1 hD.2.2
        case measure=>simp [intOf];omega
       ·go_wp2_with fail
        go_roundw
        case rel=>
         refine ⟨bs*2,d4,by omega,by omega,by go_num,HA.out,HT.out,?_,hR4,hg5⟩
         have:=HQ.out
         subst this
         rw [Nat.mul_comm bs 2]
         exact Srt.Bl.of_pf HP.out han (by omega) (Srt.Same.refl _ _ _) (S1.out.sub (Nat.le_refl _) (by omega))
        case measure=>simp [intOf];omega
    ·go_wp2_with fail
     go_end0
     exact ⟨rfl,d3,⟨HA3.out,HT3.out,HB3.out.all (by omega)⟩,hR3,hg4⟩
theorem SortStable_any (b B off n c:Nat) (e:TypeId) (key:Int→Int) (d:List Int) (pre post:List Value) (w:World) (hR:Row w b off e pre post d) (hn:d.length=n) (hbig:n≤1099511627776) (hC:Cmps b B w key) :
  Calls Tryz.prog 122 #[.slice (some ⟨b,off,none⟩) n c,.func (.func 123) #[] #[.pointer (some ⟨B,0,none⟩)]] w
   (RetRow (fun d'=>Srt.Done key d d' 0 n) b off e pre post w):=by
 have C:=Lib.hid (stable_any b B off n c e key d pre post w hR hn hbig hC)
 clear hR hn hC
 go_enter Tryz.func122,Tryz.ntmps122
 go_wp2_with fail
 refine C.out.mono ?_
 rintro e W4 ⟨rfl,d5,hD,hR5,hg6⟩
 go_wp2_with fail
 go_end0
 exact ⟨rfl,d5,hD,hR5,hg6⟩
end Go.Proofs.YtkhmjidaeliccaaGreatDoor
namespace Go.Proofs.YtkhmjidaeliccaaGreatDoor
open Go.RowKit
def cmpI (x y:Int):Int:=if x < y then -1 else if y < x then 1 else 0
theorem isNaN_any (x:Int) (w:World):Calls Tryz.prog 168 #[.int .i64 x] w fun e w'=>e=.returned (.bool false)∧w=w':=by
 have h:(x != x)=false:=by simp
 go_enter Tryz.func168,Tryz.ntmps168
 go_wp2
 go_ret
 exact ⟨rfl,rfl⟩
theorem cmpCompare_any (x y:Int) (w:World):Calls Tryz.prog 124 #[.int .i64 x,.int .i64 y] w fun e w'=>e=.returned (.int .i64 (cmpI x y))∧w=w':=by
 unfold cmpI
 by_cases h1:x < y
 ·rw [if_pos h1]
  go_enter Tryz.func124,Tryz.ntmps124
  go_wp2_with (go_at_call 168;refine (isNaN_any _ _).mono ?_;rintro e w' ⟨rfl,rfl⟩)
  go_ret
  exact ⟨rfl,rfl⟩
 ·rw [if_neg h1]
  by_cases h2:y < x
  ·rw [if_pos h2]
   go_enter Tryz.func124,Tryz.ntmps124
   go_wp2_with (go_at_call 168;refine (isNaN_any _ _).mono ?_;rintro e w' ⟨rfl,rfl⟩)
   go_ret
   exact ⟨rfl,rfl⟩
  ·rw [if_neg h2]
   go_enter Tryz.func124,Tryz.ntmps124
   go_wp2_with (go_at_call 168;refine (isNaN_any _ _).mono ?_;rintro e w' ⟨rfl,rfl⟩)
   go_ret
   exact ⟨rfl,rfl⟩
theorem cmpI_len (xs ys:List Int) (k:Nat) (h:k=xs.length∨k=ys.length) (h1:k≤xs.length) (h2:k≤ys.length):cmpL (xs.drop k) (ys.drop k)=cmpI (xs.length:Int) (ys.length:Int):=by
 rw [cmpL_end xs ys k h h1 h2]
 unfold cmpI
 simp only [Int.ofNat_lt]
theorem cmpL_ne (xs ys:List Int) (k:Nat) (h1:k < xs.length) (h2:k < ys.length) (h:xs[k]≠ys[k]):cmpL (xs.drop k) (ys.drop k)=cmpI xs[k] ys[k]:=by
 rw [cmpL_drop xs ys k h1 h2]
 unfold cmpI
 split
 ·rfl
 ·split
  ·rfl
  ·omega
theorem cpCompare_any (A B:Option Addr) (n m c d:Nat) (xs ys:List Int) (w:World) (hA:Ints w A xs) (hB:Ints w B ys) (hn:xs.length=n) (hm:ys.length=m)
  (hn':n≤9223372036854775807) (hm':m≤9223372036854775807) :
  Calls Tryz.prog 70 #[.slice A n c,.slice B m d] w fun e w'=>e=.returned (.int .i64 (cmpL xs ys))∧Qt w w':=by
 subst hn hm
 go_enter Tryz.func70,Tryz.ntmps70
 go_wp2_with fail
 all_goals
  go_loopw [5,11] (fun _ i wr=>∃k:Nat,k≤xs.length∧k≤ys.length∧i=.int .i64 k∧Qt w wr∧cmpL xs ys=cmpL (xs.drop k) (ys.drop k)) (fun _ i _=>xs.length - (intOf i).toNat)
  case atStart=>exact ⟨0,Nat.zero_le _,Nat.zero_le _,rfl,Qt.refl _,rfl⟩
  case round=>
   obtain ⟨k,hk1,hk2,rfl,⟨q,rfl⟩,hcmp⟩:=hrel
   have HC:=Lib.hid hcmp;clear hcmp
   by_cases hlt:k < xs.length∧k < ys.length
   ·obtain ⟨h1,h2⟩:=hlt
    obtain ⟨b,o,rfl,hc⟩:=hA.at h1
    obtain ⟨b',o',rfl,hc'⟩:=hB.at h2
    have hx:=hc k h1
    have hy:=hc' k h2
    have HS:=Lib.hid (cmpL_drop xs ys k h1 h2)
    have HN:=Lib.hid (cmpL_ne xs ys k h1 h2)
    clear hc hc'
    generalize xs[k]=x at *
    generalize ys[k]=y at *
    by_cases hxy:x=y
    ·have hne:(x != y)=false:=by simpa using hxy
     have HXY:=Lib.hid hxy;clear hxy
     go_wp2
     go_quiet (fail)
     go_wp2
     go_roundw
     case rel=>exact ⟨k+1,by omega,by omega,by go_num,by repeat (first | exact Qt.refl _ | refine Qt.drewN ?_ _),by rw [HC.out,HS.out,if_neg (by have:=HXY.out;omega),if_neg (by have:=HXY.out;omega)]⟩
     case measure=>simp [intOf];omega
    ·have hne:(x != y)=true:=by simpa using hxy
     have HXY:=Lib.hid hxy;clear hxy
     go_wp2
     go_quiet (fail)
     go_wp2
     go_quiet ((go_at_call 124;exact quiet_add_left (cmpCompare_any _ _ _)))
     go_wp2
     go_ret
     exact ⟨ret_int (by rw [HC.out,HN.out HXY.out]),by repeat (first | exact Qt.refl _ | refine Qt.drewN ?_ _)⟩
   ·have HL:=Lib.hid (cmpI_len xs ys k (by omega) hk1 hk2)
    go_wp2_with fail
    refine (cmpCompare_any _ _ _).mono ?_
    rintro e w' ⟨rfl,rfl⟩
    go_wp2_with fail
    go_ret
    exact ⟨ret_int (by rw [HC.out,HL.out]),by repeat (first | exact Qt.refl _ | refine Qt.drewN ?_ _)⟩
end Go.Proofs.YtkhmjidaeliccaaGreatDoor
namespace Go.Proofs.YtkhmjidaeliccaaGreatDoor
open Go.RowKit
theorem sort1_any (B:Nat) (A':Option Addr) (ns ks:Nat) (ss:List Spn) (x y:Int) (W:World) (hc:W.cell? ⟨B,0,none⟩=some (.slice A' ns ks)) (hS:Spans W A' ss) (hns:ss.length=ns) (hb2:ns≤1099511627776) (hasc:Asc ss) :
  Calls Tryz.prog 123 #[.int .i64 x,.int .i64 y,.pointer (some ⟨B,0,none⟩)] W (RetCmpS (cls ss x < cls ss y) W):=by
 have HA:=Lib.hid hasc;clear hasc
 subst hns
 have hlt:B < W.heap.size:=World.block_lt_of_cell? W _ hc
 have hSd:Spans W.drew A' ss:=hS
 go_enter Tryz.func123,Tryz.ntmps123
 go_wp2
 go_region_with (first
  | (go_at_call 124;(with_reducible refine (cmpCompare_any _ _ _).mono ?_);rintro e w' ⟨rfl,rfl⟩)
  | (go_at_call 125;(with_reducible refine (class_any A' ss.length ks ss _ _ hS1 rfl hb2 HA.out).mono ?_);rintro e w2 ⟨rfl,hb2'⟩;clear hS1)
  | (go_at_call 125;(with_reducible refine (class_any A' ss.length ks ss _ _ hSd rfl hb2 HA.out).mono ?_);rintro e w1 ⟨rfl,hb1⟩;have hc1:w1.cell? ⟨B,0,none⟩=some (.slice A' ss.length ks):=(hb1.cell (p:=⟨B,0,none⟩) hlt).trans hc;have hS1:Spans w1 A' ss:=Spans.below (w:=W.drew) hSd hb1))
 all_goals
  go_wp2
  go_ret
  refine ⟨_,rfl,?_,((Below.drew (Below.refl _ W)).trans hb1).trans (hb2'.mono hb1.size)⟩
  unfold cmpI
  split
  ·simp [*]
  ·split <;> simp [*]
theorem cmps_of {b B:Nat} {A':Option Addr} {ns ks:Nat} {ss:List Spn} {w:World} (hc:w.cell? ⟨B,0,none⟩=some (.slice A' ns ks)) (hS:Spans w A' ss) (hns:ss.length=ns) (hb2:ns≤1099511627776) (hasc:Asc ss)
  (hB:B≠b) (hA:ss≠[]→∀o,A'≠some ⟨b,o,none⟩):Cmps b B w (cls ss):=by
 intro W hg x y
 have hcell:∀p:Addr,p.block < w.heap.size→p.block≠b→W.cell? p=w.cell? p:=fun p h1 h2=>World.cell?_of_block (w:=w) (hg.block p.block h1 (fun e=>h2 (by injection e)))
 refine sort1_any B A' ns ks ss x y W ?_ ?_ hns hb2 hasc
 ·rw [hcell _ (World.block_lt_of_cell? w _ hc) hB];exact hc
 ·intro hne
  obtain ⟨b',o',rfl,hcs⟩:=hS hne
  refine ⟨b',o',rfl,fun j u hu=>?_⟩
  have h1:=hcs j u hu
  rw [hcell _ (World.block_lt_of_cell? w _ h1) (by rintro rfl;exact hA (by rintro rfl;exact hne rfl) o' rfl)]
  exact h1
end Go.Proofs.YtkhmjidaeliccaaGreatDoor
namespace Go.Proofs.YtkhmjidaeliccaaGreatDoor.Srt
def Stp {α:Type} (key:α→Int):List α→List (Nat × Nat)→List α→Prop
 | d,[],d'=>d'=d
 | d,r::rs,d'=>∃d1,Done key d d1 r.1 r.2∧Stp key d1 rs d'
theorem Stp.snoc {α:Type} {key:α→Int} {d d1 d2:List α} {rs:List (Nat × Nat)} {r:Nat × Nat} (h:Stp key d rs d1) (hd:Done key d1 d2 r.1 r.2):Stp key d (rs++[r]) d2:=by
 induction rs generalizing d with
 | nil=>cases h;exact ⟨d2,hd,rfl⟩
 | cons a rs ih=>obtain ⟨x,h1,h2⟩:=h;exact ⟨x,h1,ih h2⟩
theorem Stp.len {α:Type} {key:α→Int} {d d1:List α} {rs:List (Nat × Nat)} (h:Stp key d rs d1):d1.length=d.length:=by
 induction rs generalizing d with
 | nil=>cases h;rfl
 | cons a rs ih=>obtain ⟨x,h1,h2⟩:=h;exact (ih h2).trans h1.1.1
theorem Done.lift {α:Type} {key:α→Int} {p s s' q:List α} (h:Done key s s' 0 s.length):Done key (p++s++q) (p++s'++q) p.length (p.length+s.length):=by
 obtain ⟨⟨hl,hs⟩,ht,ho⟩:=h
 refine ⟨⟨by simp [hl],fun t ht=>?_⟩,St.append (St.append (St.refl _) ht) (St.refl _),fun i j h1 h2 h3=>?_⟩
 ·simp only [List.getElem?_append,List.length_append,hl]
  by_cases c1:t < p.length
  ·rw [if_pos (by omega),if_pos c1,if_pos (by omega),if_pos c1]
  ·rw [if_neg (by omega),if_neg (by omega)]
 ·have e:∀t,p.length≤t→t < p.length+s.length→kf key (p++s'++q) t=kf key s' (t - p.length):=by
   intro t g1 g2
   unfold kf
   rw [List.append_assoc,List.getElem?_append_right g1,List.getElem?_append_left (by omega)]
  rw [e i h1 (by omega),e j (by omega) h3]
  exact ho _ _ (by omega) (by omega) (by omega)
end Go.Proofs.YtkhmjidaeliccaaGreatDoor.Srt
namespace Go.Proofs.YtkhmjidaeliccaaGreatDoor.Can
section
variable (cl:Int→Int)
def F (k:Int) (l:List Int):List Int:=l.filter fun x=>cl x==k || cl x==0
def Inv (a b:List Int):Prop:=∀k,F cl k a=F cl k b
def Ok:List Int→Prop
 | []=>True
 | [_]=>True
 | x::y::r=>(cl y≠0→cl x≤cl y)∧Ok (y::r)
def insF (c:Int):List Int→List Int
 | []=>[c]
 | y::r=>if cl y≠0∧cl y < cl c then y::insF c r else c::y::r
def srt:List Int→List Int
 | []=>[]
 | c::r=>insF cl c (srt r)
def Z (l:List Int):List (Option Int):=l.map fun x=>if cl x=0 then some x else none
end
section
variable {cl:Int→Int}
theorem F_append (k:Int) (a b:List Int):F cl k (a++b)=F cl k a++F cl k b:=by simp [F]
theorem F_cons (k x:Int) (l:List Int):F cl k (x::l)=if cl x=k∨cl x=0 then x::F cl k l else F cl k l:=by
 by_cases h:cl x=k∨cl x=0
 ·rw [if_pos h];exact List.filter_cons_of_pos (by simpa using h)
 ·rw [if_neg h];exact List.filter_cons_of_neg (by simpa using h)
theorem Inv.refl (a:List Int):Inv cl a a:=fun _=>rfl
theorem Inv.symm {a b:List Int} (h:Inv cl a b):Inv cl b a:=fun k=>(h k).symm
theorem Inv.trans {a b c:List Int} (h:Inv cl a b) (g:Inv cl b c):Inv cl a c:=fun k=>(h k).trans (g k)
theorem Inv.append {a b c d:List Int} (h:Inv cl a b) (g:Inv cl c d):Inv cl (a++c) (b++d):=fun k=>by rw [F_append,F_append,h k,g k]
theorem Inv.cons (x:Int) {a b:List Int} (h:Inv cl a b):Inv cl (x::a) (x::b):=fun k=>by rw [F_cons,F_cons,h k]
theorem Inv.swap {x y:Int} (l:List Int) (hx:cl x≠0) (hy:cl y≠0) (hne:cl x≠cl y):Inv cl (x::y::l) (y::x::l):=fun k=>by
 simp only [F_cons]
 by_cases h1:cl x=k
 ·rw [if_pos (c:=cl x=k∨cl x=0) (.inl h1),if_pos (c:=cl x=k∨cl x=0) (.inl h1),if_neg (by omega),if_neg (by omega)]
 ·rw [if_neg (c:=cl x=k∨cl x=0) (by omega),if_neg (c:=cl x=k∨cl x=0) (by omega)]
theorem Ok.tail {x:Int} {l:List Int} (h:Ok cl (x::l)):Ok cl l:=by
 cases l with
 | nil=>trivial
 | cons y r=>exact h.2
theorem Ok.first {k:Int} {l:List Int} {x:Int} {r:List Int} (h:Ok cl l) (hk:cl x≠0) (e:F cl k l=x::r) (y:Int) (t:List Int) (hl:l=y::t):cl y≤cl x:=by
 induction l generalizing y t with
 | nil=>cases hl
 | cons z l ih=>
  obtain ⟨rfl,rfl⟩:z=y∧l=t:=by simpa using hl
  rw [F_cons] at e
  split at e
  ·injection e with e1 _;rw [e1];exact Int.le_refl _
  ·cases l with
   | nil=>simp [F] at e
   | cons u v=>
    have h1:=ih h.tail e u v rfl
    by_cases hu:cl u=0
    ·rw [F_cons,if_pos (.inr hu)] at e
     injection e with e1 _
     rw [e1] at hu
     exact absurd hu hk
    ·have:=h.1 hu
     omega
theorem canon_unique:∀{a b:List Int},Inv cl a b→Ok cl a→Ok cl b→a=b
 | [],[],_,_,_=>rfl
 | [],y::b,h,_,_=>by have:=h (cl y);rw [F_cons,if_pos (.inl rfl)] at this;cases this
 | x::a,[],h,_,_=>by have:=h (cl x);rw [F_cons,if_pos (.inl rfl)] at this;cases this
 | x::a,y::b,h,ha,hb=>by
  have hxy:x=y:=by
   by_cases hx:cl x=0
   ·have e:=h (cl y)
    rw [F_cons,if_pos (.inr hx),F_cons,if_pos (.inl rfl)] at e
    injection e
   ·by_cases hy:cl y=0
    ·have e:=h (cl x)
     rw [F_cons,if_pos (.inl rfl),F_cons,if_pos (.inr hy)] at e
     injection e
    ·have e1:=h (cl x)
     rw [F_cons,if_pos (.inl rfl)] at e1
     have h1:=hb.first hx e1.symm y b rfl
     have e2:=h (cl y)
     rw [F_cons (l:=b),if_pos (.inl rfl)] at e2
     have h2:=ha.first hy e2 x a rfl
     have e3:cl x=cl y:=by omega
     rw [F_cons,if_pos (.inl e3.symm)] at e1
     injection e1
  subst hxy
  have:=canon_unique (a:=a) (b:=b) (fun k=>by
   have e:=h k
   rw [F_cons,F_cons] at e
   split at e
   ·injection e
   ·exact e) ha.tail hb.tail
  rw [this]
theorem insF_inv (hcl:∀x,0≤cl x) (c:Int) (l:List Int):Inv cl (c::l) (insF cl c l):=by
 induction l with
 | nil=>exact Inv.refl _
 | cons y r ih=>
  unfold insF
  split
  ·rename_i h
   exact (Inv.swap r (by have:=hcl y;omega) h.1 (by omega)).trans (ih.cons y)
  ·exact Inv.refl _
theorem insF_head (c:Int) (l:List Int):∃y r,insF cl c l=y::r∧(y=c∨∃t,l=y::t):=by
 cases l with
 | nil=>exact ⟨c,[],rfl,.inl rfl⟩
 | cons y r=>
  unfold insF
  split
  ·exact ⟨y,_,rfl,.inr ⟨r,rfl⟩⟩
  ·exact ⟨c,_,rfl,.inl rfl⟩
theorem insF_ok (c:Int) (l:List Int) (h:Ok cl l):Ok cl (insF cl c l):=by
 induction l with
 | nil=>trivial
 | cons y r ih=>
  unfold insF
  split
  ·rename_i hc
   obtain ⟨z,t,hz,hor⟩:=insF_head (cl:=cl) c r
   have:=ih h.tail
   rw [hz] at this ⊢
   refine ⟨fun hne=>?_,this⟩
   rcases hor with rfl | ⟨t',rfl⟩
   ·omega
   ·exact h.1 hne
  ·rename_i hc
   exact ⟨fun hne=>by by_cases g:cl y < cl c;exact absurd ⟨hne,g⟩ hc;omega,h⟩
theorem insF_perm (c:Int) (l:List Int):(insF cl c l).Perm (c::l):=by
 induction l with
 | nil=>exact .refl _
 | cons y r ih=>
  unfold insF
  split
  ·exact (ih.cons y).trans (.swap c y r)
  ·exact .refl _
theorem srt_inv (hcl:∀x,0≤cl x) (l:List Int):Inv cl l (srt cl l):=by
 induction l with
 | nil=>exact Inv.refl _
 | cons c r ih=>exact (ih.cons c).trans (insF_inv hcl c _)
theorem srt_ok (l:List Int):Ok cl (srt cl l):=by
 induction l with
 | nil=>trivial
 | cons c r ih=>exact insF_ok c _ ih
theorem srt_perm (l:List Int):(srt cl l).Perm l:=by
 induction l with
 | nil=>exact .refl _
 | cons c r ih=>exact (insF_perm c _).trans (ih.cons c)
theorem srt_len (l:List Int):(srt cl l).length=l.length:=(srt_perm l).length_eq
theorem srt_eq (hcl:∀x,0≤cl x) {l d:List Int} (h:Inv cl l d) (ho:Ok cl d):d=srt cl l:=canon_unique (h.symm.trans (srt_inv hcl l)) ho (srt_ok l)
theorem srt_of_inv (hcl:∀x,0≤cl x) {a b:List Int} (h:Inv cl a b):srt cl a=srt cl b:=srt_eq hcl (h.symm.trans (srt_inv hcl a)) (srt_ok a)
theorem inv_of_srt (hcl:∀x,0≤cl x) {a b:List Int} (h:srt cl a=srt cl b):Inv cl a b:=(srt_inv hcl a).trans (by rw [h];exact (srt_inv hcl b).symm)
theorem Ok.append {a b:List Int} (ha:Ok cl a) (hb:Ok cl b) (h:∀y t,b=y::t→cl y=0):Ok cl (a++b):=by
 induction a with
 | nil=>exact hb
 | cons x a ih=>
  cases a with
  | nil=>
   cases b with
   | nil=>trivial
   | cons y t=>exact ⟨fun hne=>absurd (h y t rfl) hne,hb⟩
  | cons x' a'=>exact ⟨ha.1,ih ha.2⟩
theorem exchange (hcl:∀x,0≤cl x) (p q:List Int) (x y:Int):srt cl (p++x::y::q)=srt cl (p++y::x::q) ↔ (cl x≠0∧cl y≠0∧cl x≠cl y)∨x=y:=by
 constructor
 ·intro h
  by_cases hxy:x=y
  ·exact .inr hxy
  ·refine .inl ?_
   have hi:=inv_of_srt hcl h
   have key:∀k,(cl x=k∨cl x=0)→(cl y=k∨cl y=0)→False:=by
    intro k h1 h2
    have e:=hi k
    rw [F_append,F_append,F_cons,F_cons,F_cons,F_cons] at e
    simp only [if_pos h1,if_pos h2] at e
    have e2:=List.append_cancel_left e
    simp only [List.cons.injEq] at e2
    exact hxy e2.1
   exact ⟨fun h0=>key (cl y) (.inr h0) (.inl rfl),fun h0=>key (cl x) (.inl rfl) (.inr h0),fun h0=>key (cl x) (.inl rfl) (.inl h0.symm)⟩
 ·rintro (⟨h1,h2,h3⟩ | rfl)
  ·exact srt_of_inv hcl ((Inv.refl p).append (Inv.swap q h1 h2 h3))
  ·rfl
end
section
open Srt
variable {cl:Int→Int}
theorem inv_of_st {s s':List Int} (h:St cl s s') (hz:∀x ∈ s,cl x≠0):Inv cl s s':=by
 have h0:s'.filter (fun x=>cl x==0)=[]:=by
  rw [h 0]
  exact List.filter_eq_nil_iff.2 fun x hx=>by simpa using hz x hx
 have hz':∀x ∈ s',cl x≠0:=fun x hx e=>by
  have:x ∈ s'.filter (fun x=>cl x==0):=List.mem_filter.2 ⟨hx,by simpa using e⟩
  rw [h0] at this
  cases this
 intro k
 have e:∀l:List Int,(∀x ∈ l,cl x≠0)→F cl k l=l.filter (fun x=>cl x==k):=fun l hl=>by
  unfold F
  refine List.filter_congr fun x hx=>?_
  have:=hl x hx
  simp [this]
 rw [e s hz,e s' hz',h k]
theorem ok_of_sorted {s:List Int} (h:SortedOn cl s 0 s.length):Ok cl s:=by
 induction s with
 | nil=>trivial
 | cons x s ih=>
  have ht:SortedOn cl s 0 s.length:=fun i j _ h2 h3=>by
   have:=h (i+1) (j+1) (by omega) (by omega) (by simpa using h3)
   simpa [kf] using this
  cases s with
  | nil=>trivial
  | cons y r=>
   refine ⟨fun _=>?_,ih ht⟩
   have:=h 0 1 (by omega) (by omega) (by simp)
   simpa [kf] using this
theorem done_cut {p o q d:List Int} {s i:Nat} (hs:p.length=s) (hi:s+o.length=i) (h:Done cl (p++o++q) d s i) :
  ∃o',d=p++o'++q∧o'.length=o.length∧St cl o o'∧SortedOn cl o' 0 o'.length:=by
 obtain ⟨⟨hl,hsame⟩,hst,hso⟩:=h
 refine ⟨(d.drop s).take o.length,?_,?_,?_,?_⟩
 case _=>
  apply List.ext_getElem?
  intro t
  have hlen:((d.drop s).take o.length).length=o.length:=by simp at hl ⊢;omega
  by_cases c1:t < s
  ·rw [hsame t (.inl c1),List.append_assoc,List.append_assoc,List.getElem?_append_left (by omega),List.getElem?_append_left (by omega)]
  ·by_cases c2:t < i
   ·rw [List.append_assoc,List.getElem?_append_right (by omega),List.getElem?_append_left (by omega),List.getElem?_take,if_pos (by omega),List.getElem?_drop]
    congr 1;omega
   ·rw [hsame t (.inr (by omega)),List.append_assoc,List.append_assoc,List.getElem?_append_right (by omega),List.getElem?_append_right (by omega),List.getElem?_append_right (by omega),List.getElem?_append_right (by omega),hlen]
 case _=>simp at hl ⊢;omega
 all_goals
  have hd:d=p++(d.drop s).take o.length++q:=by
   apply List.ext_getElem?
   intro t
   have hlen:((d.drop s).take o.length).length=o.length:=by simp at hl ⊢;omega
   by_cases c1:t < s
   ·rw [hsame t (.inl c1),List.append_assoc,List.append_assoc,List.getElem?_append_left (by omega),List.getElem?_append_left (by omega)]
   ·by_cases c2:t < i
    ·rw [List.append_assoc,List.getElem?_append_right (by omega),List.getElem?_append_left (by omega),List.getElem?_take,if_pos (by omega),List.getElem?_drop]
     congr 1;omega
    ·rw [hsame t (.inr (by omega)),List.append_assoc,List.append_assoc,List.getElem?_append_right (by omega),List.getElem?_append_right (by omega),List.getElem?_append_right (by omega),List.getElem?_append_right (by omega),hlen]
  have hlen:((d.drop s).take o.length).length=o.length:=by simp at hl ⊢;omega
  generalize (d.drop s).take o.length=o' at *
  subst hd
 ·intro k
  have:=hst k
  simp only [List.filter_append,List.append_assoc] at this
  have:=List.append_cancel_left this
  exact List.append_cancel_right this
 ·intro a b h1 h2 h3
  have e:∀t,t < o'.length→kf cl (p++o'++q) (s+t)=kf cl o' t:=by
   intro t ht
   unfold kf
   rw [List.append_assoc,List.getElem?_append_right (by omega),List.getElem?_append_left (by omega),show s+t - p.length=t by omega]
  rw [←e a (by omega),←e b h3]
  exact hso _ _ (by omega) (by omega) (by omega)
theorem stp_canon (hcl:∀x,0≤cl x) (rest:List Int) :
  (∀(p d:List Int),Stp cl (p++rest) (rns cl rest p.length none) d→∃d1,d=p++d1∧Inv cl rest d1∧Ok cl d1)∧
  (∀(p o d:List Int),(∀x ∈ o,cl x≠0)→Stp cl (p++o++rest) (rns cl rest (p.length+o.length) (some p.length)) d→∃d1,d=p++d1∧Inv cl (o++rest) d1∧Ok cl d1):=by
 induction rest with
 | nil=>
  refine ⟨fun p d h=>?_,fun p o d ho h=>?_⟩
  ·cases h;exact ⟨[],rfl,Inv.refl _,trivial⟩
  ·obtain ⟨d1,hd,rfl⟩:=h
   obtain ⟨o',rfl,h1,h2,h3⟩:=done_cut rfl rfl hd
   exact ⟨o',by simp,by rw [List.append_nil];exact inv_of_st h2 ho,ok_of_sorted h3⟩
 | cons c r ih=>
  refine ⟨fun p d h=>?_,fun p o d ho h=>?_⟩
  ·unfold rns at h
   by_cases hc:cl c=0
   ·rw [if_pos hc] at h
    obtain ⟨d1,rfl,h1,h2⟩:=ih.1 (p++[c]) d (by simpa using h)
    refine ⟨c::d1,by simp,h1.cons c,?_⟩
    cases d1 with
    | nil=>trivial
    | cons y t=>exact ⟨fun _=>by have:=hcl y;omega,‹_›⟩
   ·rw [if_neg hc] at h
    obtain ⟨d1,rfl,h1,h2⟩:=ih.2 p [c] d (by simpa using hc) (by simpa using h)
    exact ⟨d1,rfl,by simpa using h1,h2⟩
  ·unfold rns at h
   by_cases hc:cl c=0
   ·rw [if_pos hc] at h
    obtain ⟨d1,hd,h⟩:=h
    obtain ⟨o',rfl,h1,h2,h3⟩:=done_cut rfl rfl hd
    obtain ⟨d2,rfl,h4,h5⟩:=ih.1 (p++o'++[c]) d (by simpa [h1,Nat.add_assoc] using h)
    refine ⟨o'++c::d2,by simp,(inv_of_st h2 ho).append (h4.cons c),(ok_of_sorted h3).append ?_ (fun y t e=>by injection e with e1 _;rw [←e1];exact hc)⟩
    cases d2 with
    | nil=>trivial
    | cons y t=>exact ⟨fun _=>by have:=hcl y;omega,‹_›⟩
   ·rw [if_neg hc] at h
    obtain ⟨d1,rfl,h1,h2⟩:=ih.2 p (o++[c]) d (by simpa [or_imp,forall_and] using ⟨ho,hc⟩) (by simpa [Nat.add_assoc] using h)
    exact ⟨d1,rfl,by simpa using h1,h2⟩
theorem stp_srt (hcl:∀x,0≤cl x) {text d:List Int} (h:Stp cl text (rns cl text 0 none) d):d=srt cl text:=by
 obtain ⟨d1,rfl,h1,h2⟩:=(stp_canon hcl text).1 [] d h
 exact srt_eq hcl h1 h2
end
end Go.Proofs.YtkhmjidaeliccaaGreatDoor.Can
namespace Go.Proofs.YtkhmjidaeliccaaGreatDoor.Hg
def kind (c:Int):Int:=
 if 0x1100≤c∧c≤0x1112 then 1
 else if 0x1161≤c∧c≤0x1175 then 2
 else if 0x11A8≤c∧c≤0x11C2 then 3
 else if 0xAC00≤c∧c≤0xD7A3 then (if (c - 0xAC00) % 28=0 then 4 else 5)
 else 0
theorem kind1 {c:Int} (h:0x1100≤c∧c≤0x1112):kind c=1:=by unfold kind;rw [if_pos h]
theorem kind2 {c:Int} (h:0x1161≤c∧c≤0x1175):kind c=2:=by unfold kind;rw [if_neg (by omega),if_pos h]
theorem kind3 {c:Int} (h:0x11A8≤c∧c≤0x11C2):kind c=3:=by unfold kind;rw [if_neg (by omega),if_neg (by omega),if_pos h]
theorem kind4 {c:Int} (h:0xAC00≤c∧c≤0xD7A3) (h':(c - 0xAC00) % 28=0):kind c=4:=by unfold kind;rw [if_neg (by omega),if_neg (by omega),if_neg (by omega),if_pos h,if_pos h']
theorem kind5 {c:Int} (h:0xAC00≤c∧c≤0xD7A3) (h':¬(c - 0xAC00) % 28=0):kind c=5:=by unfold kind;rw [if_neg (by omega),if_neg (by omega),if_neg (by omega),if_pos h,if_neg h']
theorem kind0 {c:Int} (h1:¬(0x1100≤c∧c≤0x1112)) (h2:¬(0x1161≤c∧c≤0x1175)) (h3:¬(0x11A8≤c∧c≤0x11C2)) (h4:¬(0xAC00≤c∧c≤0xD7A3)):kind c=0:=by
 unfold kind;rw [if_neg h1,if_neg h2,if_neg h3,if_neg h4]
theorem cases6 (c:Int):(0x1100≤c∧c≤0x1112∧kind c=1)∨(0x1161≤c∧c≤0x1175∧kind c=2)∨(0x11A8≤c∧c≤0x11C2∧kind c=3)∨(0xAC00≤c∧c≤0xD7A3∧(c - 0xAC00) % 28=0∧kind c=4)∨
  (0xAC00≤c∧c≤0xD7A3∧¬(c - 0xAC00) % 28=0∧kind c=5)∨(¬(0x1100≤c∧c≤0x1112)∧¬(0x1161≤c∧c≤0x1175)∧¬(0x11A8≤c∧c≤0x11C2)∧¬(0xAC00≤c∧c≤0xD7A3)∧kind c=0):=by
 by_cases h1:0x1100≤c∧c≤0x1112
 ·exact .inl ⟨h1.1,h1.2,kind1 h1⟩
 by_cases h2:0x1161≤c∧c≤0x1175
 ·exact .inr (.inl ⟨h2.1,h2.2,kind2 h2⟩)
 by_cases h3:0x11A8≤c∧c≤0x11C2
 ·exact .inr (.inr (.inl ⟨h3.1,h3.2,kind3 h3⟩))
 by_cases h4:0xAC00≤c∧c≤0xD7A3
 ·by_cases h5:(c - 0xAC00) % 28=0
  ·exact .inr (.inr (.inr (.inl ⟨h4.1,h4.2,h5,kind4 h4 h5⟩)))
  ·exact .inr (.inr (.inr (.inr (.inl ⟨h4.1,h4.2,h5,kind5 h4 h5⟩))))
 ·exact .inr (.inr (.inr (.inr (.inr ⟨h1,h2,h3,h4,kind0 h1 h2 h3 h4⟩))))
theorem kind_range (c:Int):0≤kind c∧kind c≤5:=by
 rcases cases6 c with h | h | h | h | h | h <;> omega
def decomp (c:Int):List Int:=
 if kind c < 4 then [c]
 else if (c - 0xAC00) % 28=0 then [0x1100+(c - 0xAC00) / 28 / 21,0x1161+(c - 0xAC00) / 28 % 21]
 else [0x1100+(c - 0xAC00) / 28 / 21,0x1161+(c - 0xAC00) / 28 % 21,0x11A8+(c - 0xAC00) % 28 - 1]
def pl (p q r:Int):Nat:=
 if (p==1&&q==2&&r==3)=true then 3 else if (p==1&&q==2)=true then 2 else if (p==4&&q==3)=true then 2 else if 4≤p then 1 else 0
def kd (l:List Int) (j:Nat):Int:=(l[j]?.map kind).getD 0
def plen (l:List Int):Nat:=pl (kd l 0) (kd l 1) (kd l 2)
def spl (l:List Int):Nat→Nat→List (Nat × Nat)
 | 0,_=>[]
 | f+1,i=>if i < l.length then (if 0 < plen (l.drop i) then (i,i+plen (l.drop i))::spl l f (i+plen (l.drop i)) else spl l f (i+1)) else []
def sp (l:List Int) (i:Nat):List (Nat × Nat):=spl l (l.length - i) i
end Go.Proofs.YtkhmjidaeliccaaGreatDoor.Hg
namespace Go.Proofs.YtkhmjidaeliccaaGreatDoor
open Go.RowKit
theorem Kind_any (c:Int) (w:World):Calls Tryz.prog 142 #[.int .i64 c] w fun e w'=>e=.returned (.int .i64 (Hg.kind c))∧w=w':=by
 rcases Hg.cases6 c with ⟨h1,h2,hk⟩ | ⟨h1,h2,hk⟩ | ⟨h1,h2,hk⟩ | ⟨h1,h2,h3,hk⟩ | ⟨h1,h2,h3,hk⟩ | ⟨h1,h2,h3,h4,hk⟩ <;> rw [hk] <;> clear hk
 all_goals
  go_enter Tryz.func142,Tryz.ntmps142
  go_wp2
  all_goals (go_ret;exact ⟨rfl,rfl⟩)
end Go.Proofs.YtkhmjidaeliccaaGreatDoor
namespace Go.Proofs.YtkhmjidaeliccaaGreatDoor
open Go.RowKit
theorem kind_is4 {c:Int} (h:Hg.kind c=4):0xAC00≤c∧c≤0xD7A3∧(c - 0xAC00) % 28=0:=by rcases Hg.cases6 c with h' | h' | h' | h' | h' | h' <;> omega
theorem kind_is5 {c:Int} (h:Hg.kind c=5):0xAC00≤c∧c≤0xD7A3∧¬(c - 0xAC00) % 28=0:=by rcases Hg.cases6 c with h' | h' | h' | h' | h' | h' <;> omega
end Go.Proofs.YtkhmjidaeliccaaGreatDoor
namespace Go.Proofs.YtkhmjidaeliccaaGreatDoor
open Go.RowKit
def RetHg (zs:List Int) (w:World) (e:Ending) (w':World):Prop:=∃A c,e=.returned (.slice A zs.length c)∧zs.length≤c∧Ints w' A zs∧Below w.heap.size w w'
theorem decomp_no {c:Int} (h:Hg.kind c < 4):Hg.decomp c=[c]:=by unfold Hg.decomp;rw [if_pos h]
theorem decomp_2 {c:Int} (h:Hg.kind c=4):Hg.decomp c=[0x1100+(c - 0xAC00) / 28 / 21,0x1161+(c - 0xAC00) / 28 % 21]:=by
 unfold Hg.decomp;rw [if_neg (by omega),if_pos (kind_is4 h).2.2]
theorem decomp_3 {c:Int} (h:Hg.kind c=5):Hg.decomp c=[0x1100+(c - 0xAC00) / 28 / 21,0x1161+(c - 0xAC00) / 28 % 21,0x11A8+(c - 0xAC00) % 28 - 1]:=by
 unfold Hg.decomp;rw [if_neg (by omega),if_neg (kind_is5 h).2.2]
def RetArr3 (x y z:Int) (w:World) (e:Ending) (w':World):Prop:=e=.returned (.agg #[.int .i64 x,.int .i64 y,.int .i64 z])∧Below w.heap.size w w'
theorem parts_no (c:Int) (w:World) (h:Hg.kind c < 4):Calls Tryz.prog 190 #[.int .i64 c] w (RetArr3 0 0 0 w):=by
 go_enter Tryz.func190,Tryz.ntmps190
 go_wp2_with (go_at_call 142;refine (Kind_any _ _).mono ?_;rintro e w' ⟨rfl,rfl⟩)
 refine bodyPost_ret (v:=.agg #[.int .i64 0,.int .i64 0,.int .i64 0]) (by simp [results,Tryz.results190,go_sem]) rfl ⟨rfl,?_⟩
 exact (Below.refl _ _).alloc (Nat.le_refl _) _
theorem parts_2 (c:Int) (w:World) (h:Hg.kind c=4):Calls Tryz.prog 190 #[.int .i64 c] w (RetArr3 (0x1100+(c - 0xAC00) / 28 / 21) (0x1161+(c - 0xAC00) / 28 % 21) 0 w):=by
 obtain ⟨b1,b2,b3⟩:=kind_is4 h
 go_enter Tryz.func190,Tryz.ntmps190
 go_wp2_with (go_at_call 142;refine (Kind_any _ _).mono ?_;rintro e w' ⟨rfl,rfl⟩)
 refine bodyPost_ret (v:=.agg #[.int .i64 (0x1100+(c - 0xAC00) / 28 / 21),.int .i64 (0x1161+(c - 0xAC00) / 28 % 21),.int .i64 0]) (by simp [results,Tryz.results190,go_sem]) rfl ⟨rfl,?_⟩
 exact ((Below.refl _ _).alloc (Nat.le_refl _) _).alloc (by simp) _
theorem parts_3 (c:Int) (w:World) (h:Hg.kind c=5):Calls Tryz.prog 190 #[.int .i64 c] w (RetArr3 (0x1100+(c - 0xAC00) / 28 / 21) (0x1161+(c - 0xAC00) / 28 % 21) (0x11A8+(c - 0xAC00) % 28 - 1) w):=by
 obtain ⟨b1,b2,b3⟩:=kind_is5 h
 have b4:0 < (c - 0xAC00) % 28:=by omega
 clear b3
 go_enter Tryz.func190,Tryz.ntmps190
 go_wp2_with (go_at_call 142;refine (Kind_any _ _).mono ?_;rintro e w' ⟨rfl,rfl⟩)
 refine bodyPost_ret (v:=.agg #[.int .i64 (0x1100+(c - 0xAC00) / 28 / 21),.int .i64 (0x1161+(c - 0xAC00) / 28 % 21),.int .i64 (0x11A8+(c - 0xAC00) % 28 - 1)]) (by simp [results,Tryz.results190,go_sem]) rfl ⟨rfl,?_⟩
 exact ((Below.refl _ _).alloc (Nat.le_refl _) _).alloc (by simp) _
theorem Decompose_any (c:Int) (w:World):Calls Tryz.prog 163 #[.int .i64 c] w (RetHg (Hg.decomp c) w):=by
 obtain ⟨i0,hi,hz0,hz1,hz2⟩:=info_parts info_int
 have q3:=fun W x y z x' y' z'=>run_equalIn_array3 (P:=Tryz.prog) W 9998 145 3 .i64 i0 Tryz.underlying145 Tryz.underlying3 hi hz1 x y z x' y' z'
 clear hi hz0 hz1 hz2
 by_cases h:Hg.kind c < 4
 ·rw [decomp_no h]
  have H:=Lib.hid (fun W=>parts_no c W h);clear h
  go_enter Tryz.func163,Tryz.ntmps163
  go_wp2_with (go_at_call 190;refine (H.out _).mono ?_;rintro e w1 ⟨rfl,hb⟩)
  go_ret
  exact ⟨_,_,rfl,Nat.le_refl _,Ints_new _ [_] _ (by simp),(hb.alloc hb.size _).alloc (by have:=hb.size;simp;omega) _⟩
 ·by_cases h4:Hg.kind c=4
  ·rw [decomp_2 h4]
   have hc:=kind_is4 h4
   have h1:(0x1100+(c - 0xAC00) / 28 / 21==0)=false:=by simp;omega
   have H:=Lib.hid (fun W=>parts_2 c W h4);clear h h4 hc
   generalize 0x1100+(c - 0xAC00) / 28 / 21=x at *
   generalize 0x1161+(c - 0xAC00) / 28 % 21=y at *
   go_enter Tryz.func163,Tryz.ntmps163
   go_wp2_with (go_at_call 190;refine (H.out _).mono ?_;rintro e w1 ⟨rfl,hb⟩)
   go_ret
   exact ⟨_,_,rfl,Nat.le_refl _,Ints_new _ [_,_] _ (by simp),(hb.alloc hb.size _).alloc (by have:=hb.size;simp;omega) _⟩
  ·have h5:Hg.kind c=5:=by have:=Hg.kind_range c;omega
   rw [decomp_3 h5]
   have hc:=kind_is5 h5
   have h1:(0x1100+(c - 0xAC00) / 28 / 21==0)=false:=by simp;omega
   have h2:(0x11A8+(c - 0xAC00) % 28 - 1==0)=false:=by simp;omega
   have H:=Lib.hid (fun W=>parts_3 c W h5);clear h h4 h5 hc
   generalize 0x1100+(c - 0xAC00) / 28 / 21=x at *
   generalize 0x1161+(c - 0xAC00) / 28 % 21=y at *
   generalize 0x11A8+(c - 0xAC00) % 28 - 1=z at *
   go_enter Tryz.func163,Tryz.ntmps163
   go_wp2_with (go_at_call 190;refine (H.out _).mono ?_;rintro e w1 ⟨rfl,hb⟩)
   go_ret
   exact ⟨_,_,rfl,Nat.le_refl _,Ints_new _ [_,_,_] _ (by simp),(hb.alloc hb.size _).alloc (by have:=hb.size;simp;omega) _⟩
end Go.Proofs.YtkhmjidaeliccaaGreatDoor
namespace Go.Proofs.YtkhmjidaeliccaaGreatDoor
open Go.RowKit Go.Shelf
attribute [local go_sem] Oper.semAt_some
theorem own_row {w:World} {base:Nat} {e:TypeId} {A:Option Addr} {n c:Nat} {d:List Int} (h:w.ownsRow base e 1 (.slice A n c) n (d.map (Value.int .i64))) (hn:0 < n) :
  ∃g post,A=some ⟨g,0,none⟩∧base≤g∧Row w g 0 e [] post d∧d.length=n∧n+post.length=c∧c≤maxLen:=by
 obtain ⟨h1,h2⟩:=h
 rcases h2 with ⟨hv,rfl⟩ | ⟨g,cap,cur,hv,hb,hg,hnc,hcm,hcur,htake⟩
 ·omega
 ·injection hv with hA _ hc
  subst hA;subst hc
  simp only [Nat.mul_one,List.length_map] at *
  refine ⟨g,cur.toList.drop n,rfl,hb,⟨rfl,?_⟩,h1,by simp;omega,hcm⟩
  unfold Blk
  rw [List.nil_append,←htake,List.take_append_drop]
  exact hg
theorem row_own {w:World} {base g n c:Nat} {e:TypeId} {post:List Value} {d:List Int} (h:Row w g 0 e [] post d) (hb:base≤g) (hn:d.length=n) (hc:n+post.length=c) (hcm:c≤maxLen) :
  w.ownsRow base e 1 (.slice (some ⟨g,0,none⟩) n c) n (d.map (Value.int .i64)):=by
 refine ⟨by simp [hn],.inr ⟨g,c,_,rfl,hb,h.2,by omega,hcm,by simp;omega,?_⟩⟩
 simp [←hn]
theorem Row.cut {w:World} {g:Nat} {e:TypeId} {post:List Value} {d:List Int} (h:Row w g 0 e [] post d) {lo hi:Nat} (h1:lo≤hi) (h2:hi≤d.length) :
  Row w g lo e ((d.take lo).map (Value.int .i64)) ((d.drop hi).map (Value.int .i64)++post) ((d.drop lo).take (hi - lo)):=by
 refine ⟨by simp;omega,?_⟩
 have:=h.2
 unfold Blk at this ⊢
 rw [this]
 congr 2
 have hp:=Srt.parts d lo lo hi (Nat.le_refl _) h1
 simp only [Nat.sub_self,List.take_zero,List.nil_append] at hp
 rw [List.nil_append]
 conv=>lhs;rw [hp]
 simp
theorem Row.uncut {w:World} {g lo:Nat} {e:TypeId} {post:List Value} {p s q:List Int} (h:Row w g lo e (p.map (Value.int .i64)) (q.map (Value.int .i64)++post) s):Row w g 0 e [] post (p++s++q):=by
 refine ⟨rfl,?_⟩
 have:=h.2
 unfold Blk at this ⊢
 rw [this]
 simp
theorem rns_in (cl:Int→Int) (l:List Int) (i:Nat) (s:Option Nat) (hs:∀x,s=some x→x < i):∀r ∈ rns cl l i s,r.1 < r.2∧r.2≤i+l.length:=by
 induction l generalizing i s with
 | nil=>
  cases s with
  | none=>intro r hr;cases hr
  | some s=>intro r hr;simp only [rns,List.mem_singleton] at hr;subst hr;have:=hs s rfl;simp;omega
 | cons c t ih=>
  have h1:=ih (i+1) none (fun _ h=>by cases h)
  have h2:=ih (i+1) (some i) (fun x h=>by cases h;omega)
  cases s with
  | none=>
   intro r hr
   simp only [rns] at hr
   simp only [List.length_cons]
   split at hr
   ·have:=h1 r hr;omega
   ·have:=h2 r hr;omega
  | some s=>
   have hs':=hs s rfl
   have h3:=ih (i+1) (some s) (fun x h=>by cases h;omega)
   intro r hr
   simp only [rns] at hr
   simp only [List.length_cons]
   split at hr
   ·simp only [List.mem_cons] at hr
    rcases hr with rfl | hr
    ·simp;omega
    ·have:=h1 r hr;omega
   ·have:=h3 r hr;omega
abbrev RgN (n:Nat):={ x:Nat × Nat // x.1 < x.2∧x.2≤n }
theorem rg_all {n:Nat} (l:List (Nat × Nat)) (h:∀r ∈ l,r.1 < r.2∧r.2≤n):∃all:List (RgN n),all.map (fun x=>x.1)=l:=by
 induction l with
 | nil=>exact ⟨[],rfl⟩
 | cons x l ih=>
  obtain ⟨all,ha⟩:=ih fun r hr=>h r (List.mem_cons_of_mem _ hr)
  exact ⟨⟨x,h x (List.mem_cons_self ..)⟩::all,by rw [List.map_cons,ha]⟩
theorem cell_grown {W W':World} {row:Option Nat} (hg:W.grownBy W' row) (hr:∀r,row=some r→∃o:Obj,W.heap[r]?=some o∧o.isCells=false) {p:Addr} {v:Value} (h:W.cell? p=some v):W'.cell? p=some v:=by
 have hlt:=World.block_lt_of_cell? W p h
 refine (World.cell?_of_block (w:=W) (hg.block p.block hlt fun e=>?_)).trans h
 obtain ⟨o,ho,hc⟩:=hr p.block e.symm
 unfold World.cell? at h
 rw [ho] at h
 cases o with
 | cells c t f=>cases hc
 | _=>simp at h
theorem Sl.grown {W W':World} {row:Option Nat} {A:Option Addr} {cs:List Value} (h:Sl W A cs) (hg:W.grownBy W' row) (hr:∀r,row=some r→∃o:Obj,W.heap[r]?=some o∧o.isCells=false):Sl W' A cs:=by
 intro hne
 obtain ⟨b,o,rfl,hc⟩:=h hne
 exact ⟨b,o,rfl,fun j u hu=>cell_grown hg hr (hc j u hu)⟩
structure SortI (key:Int→Int) (text:List Int) (base Bo Bl:Nat) (A:Option Addr) (n c:Nat) (A1:Option Addr) (n1 k1:Nat) (ts:List Spn) (w:World) (pre:List (Nat × Nat)) (W:World):Prop where
 box:Boxed W Bo 33 (.slice A n c)
 row:∃d,W.ownsRow base 3 1 (.slice A n c) n (d.map (Value.int .i64))∧Srt.Stp key text pre d
 l:W.cell? ⟨Bl,0,none⟩=some (.slice A1 n1 k1)
 sp:Spans W A1 ts
 bel:Below w.heap.size w W
theorem SortI.own {key:Int→Int} {text:List Int} {base Bo Bl:Nat} {A:Option Addr} {n c:Nat} {A1:Option Addr} {n1 k1:Nat} {ts:List Spn} {w:World} {β:Type} (f:β→List (Nat × Nat)) {B:Nat} (hB:w.heap.size≤B) :
  OwnFrom B (fun s W=>SortI key text base Bo Bl A n c A1 n1 k1 ts w (f s) W):=by
 intro s X Y row h hg hr
 have hr':∀r,row=some r→∃o:Obj,X.heap[r]?=some o∧o.isCells=false:=fun r e=>(hr r e).2
 refine ⟨h.box.kept hg (fun e'=>?_),?_,cell_grown hg hr' h.l,Sl.grown h.sp hg hr',?_⟩
 ·obtain ⟨o,ho,hc⟩:=hr' Bo e'.symm
  rw [show X.heap[Bo]?=_ from h.box] at ho;cases ho;cases hc
 ·obtain ⟨d,hd,hs⟩:=h.row
  refine ⟨d,hd.kept hg ?_,hs⟩
  rcases hd.2 with ⟨hv,_⟩ | ⟨g,cap,cur,hv,_,hgb,_⟩
  ·rw [hv];exact .inl rfl
  ·rw [hv]
   refine .inr fun e'=>?_
   obtain ⟨o,ho,hc⟩:=hr' g (by simpa [Value.ownBlock] using e'.symm)
   rw [hgb] at ho;cases ho;cases hc
 ·exact h.bel.grown hg h.bel.size (fun k e=>Nat.le_trans hB (hr k e).1)
theorem SortI.alloc {key:Int→Int} {text:List Int} {base Bo Bl:Nat} {A:Option Addr} {n c:Nat} {A1:Option Addr} {n1 k1:Nat} {ts:List Spn} {w W:World} {pre:List (Nat × Nat)} (h:SortI key text base Bo Bl A n c A1 n1 k1 ts w pre W) (o:Obj):SortI key text base Bo Bl A n c A1 n1 k1 ts w pre (W.alloc o):=
 OwnFrom.alloc (SortI.own (fun s:List (Nat × Nat)=>s) (B:=w.heap.size) (Nat.le_refl _)) (s:=pre) o h
end Go.Proofs.YtkhmjidaeliccaaGreatDoor
namespace Go.Proofs.YtkhmjidaeliccaaGreatDoor
open Go.RowKit
def RvK (d d':List Int) (i:Nat):Prop:=d'.length=d.length∧∀k,k < d.length→d'[k]?=if k < i∨d.length - 1 - k < i then d[d.length - 1 - k]? else d[k]?
theorem RvK.zero (d:List Int):RvK d d 0:=⟨rfl,fun k _=>by rw [if_neg (by omega)]⟩
theorem RvK.done {d d':List Int} {i:Nat} (h:RvK d d' i) (hi:d.length≤2*i+1) (_h2:2*i≤d.length):d'=d.reverse:=by
 refine List.ext_getElem? fun k=>?_
 by_cases hk:k < d.length
 ·rw [h.2 k hk,List.getElem?_reverse hk]
  split
  ·rfl
  ·congr 1;omega
 ·rw [List.getElem?_eq_none (by rw [h.1];omega),List.getElem?_eq_none (by rw [List.length_reverse];omega)]
theorem RvK.step {d d':List Int} {i j:Nat} (h:RvK d d' i) (hij:i < j) (hj:j=d.length - 1 - i) (h2:2*i≤d.length) {x y:Int} (hx:d'[i]?=some x) (hy:d'[j]?=some y):RvK d ((d'.set i y).set j x) (i+1):=by
 have hl:=h.1
 have hx':=h.2 i (by omega)
 have hy':=h.2 j (by omega)
 rw [if_neg (by omega)] at hx' hy'
 refine ⟨by simp [hl],fun k hk=>?_⟩
 rw [List.getElem?_set,List.length_set,hl]
 by_cases e1:j=k
 ·subst e1
  rw [if_pos rfl,if_pos (by omega),if_pos (by omega),←hx,hx']
  congr 1;omega
 ·rw [if_neg e1,List.getElem?_set,hl]
  by_cases e2:i=k
  ·subst e2
   rw [if_pos rfl,if_pos (by omega),if_pos (by omega),←hy,hy']
   congr 1
  ·rw [if_neg e2,h.2 k hk]
   by_cases c:k < i∨d.length - 1 - k < i
   ·rw [if_pos c,if_pos (by omega)]
   ·rw [if_neg c,if_neg (by omega)]
end Go.Proofs.YtkhmjidaeliccaaGreatDoor
namespace Go.Proofs.YtkhmjidaeliccaaGreatDoor
open Go.RowKit
def noneE (e:Elt):Bool:=decide (e.p=0)&&decide (e.s=0)&&decide (e.t=0)
def rawE (e:Elt) (k:Nat):Int:=if k=0 then e.p else if k=1 then e.s else if k=2 then e.t else 0
end Go.Proofs.YtkhmjidaeliccaaGreatDoor
namespace Go.Proofs.YtkhmjidaeliccaaGreatDoor
open Go.RowKit
end Go.Proofs.YtkhmjidaeliccaaGreatDoor
namespace Go.Proofs.YtkhmjidaeliccaaGreatDoor
open Go.RowKit Go.Maps Go.WideMaps
structure WghAt (w:World) (s:Nat) (va:Int) (a:Bool):Prop where
 b0:Box w s 3 [.int .i64 va]
 b1:Box w (s+1) 4 [.bool a]
theorem WghAt.below {w w':World} {s:Nat} {va:Int} {a:Bool} (h:WghAt w s va a) (hb:Below w.heap.size w w'):WghAt w' s va a:=⟨h.b0.below hb h.b0.lt,h.b1.below hb h.b1.lt⟩
theorem gr_alloc {a w:World} {r:Option Nat} (h:a.grownBy w r) (o:Obj):a.grownBy (w.alloc o) r:=grownR_below h ((Below.refl _ _).alloc (Nat.le_refl _) _)
theorem gr_new {a w:World} {r:Option Nat} (h:a.grownBy w r) (p:Addr) (hp:a.heap.size≤p.block) (v:Value):a.grownBy (w.setCell p v) r:=
 ⟨h.os,h.tape,h.output,by simp [World.setCell];exact h.size,fun k hk hne=>(Below.heap_setCell w p v k (by omega)).trans (h.block k hk hne)⟩
theorem gr_set {a w:World} {p:Addr} (h:a.grownBy w (some p.block)) (v:Value):a.grownBy (w.setCell p v) (some p.block):=grownR_trans h (grown_set _ _ _)
theorem bx_alloc {w:World} {b:Nat} {t:TypeId} {cs:List Value} (h:Box w b t cs) (o:Obj):Box (w.alloc o) b t cs:=h.below ((Below.refl _ _).alloc (Nat.le_refl _) _) h.lt
theorem bx_ne {w:World} {b:Nat} {t:TypeId} {cs:List Value} (h:Box w b t cs) (p:Addr) (hp:b≠p.block) (v:Value):Box (w.setCell p v) b t cs:=(Below.heap_setCell w p v b (fun e=>hp e)).trans h
set_option linter.unusedSimpArgs false
end Go.Proofs.YtkhmjidaeliccaaGreatDoor
namespace Go.Proofs.YtkhmjidaeliccaaGreatDoor
open Go.RowKit
structure Mp where
 frm:Int
 toq:List Int
 tag:ByteArray
 deriving DecidableEq
structure Rg where
 lo:Int
 hi:Int
 deriving DecidableEq
def Rg.cells (r:Rg):List Value:=[.int .i64 r.lo,.int .i64 r.hi]
def Rgs (w:World) (A:Option Addr) (rs:List Rg):Prop:=Recs Rg.cells w A rs
theorem Rgs.below {w w':World} {A:Option Addr} {rs:List Rg} (h:Rgs w A rs) (hb:Below w.heap.size w w'):Rgs w' A rs:=Recs.below h hb
theorem Rgs.at {w:World} {A:Option Addr} {rs:List Rg} (h:Rgs w A rs) {m:Nat} (hm:m < rs.length) :
  ∃b o,A=some ⟨b,o,none⟩∧b < w.heap.size∧∀i,(hi:i < rs.length)→w.cell? ⟨b,o+i*2,none⟩=some (.int .i64 rs[i].lo)∧w.cell? ⟨b,o+i*2+1,none⟩=some (.int .i64 rs[i].hi):=by
 obtain ⟨b,o,rfl,hb,hc⟩:=Recs.at 2 (fun _=>rfl) (by omega) h hm
 exact ⟨b,o,rfl,hb,fun i hi=>⟨hc i hi 0 _ rfl,hc i hi 1 _ rfl⟩⟩
def mpC (p:Mp × Value):List Value:=[.int .i64 p.1.frm,p.2,.string p.1.tag]
def Mps (w:World) (A:Option Addr) (ms:List Mp):Prop:=
 ∃vs:List Value,vs.length=ms.length∧Recs mpC w A (ms.zip vs)∧∀i,(hi:i < ms.length)→(hv:i < vs.length)→∃C c,vs[i]=.slice C ms[i].toq.length c∧ms[i].toq.length≤c∧Ints w C ms[i].toq
theorem Mps.below {w w':World} {A:Option Addr} {ms:List Mp} (h:Mps w A ms) (hb:Below w.heap.size w w'):Mps w' A ms:=by
 obtain ⟨vs,h1,h2,h3⟩:=h
 refine ⟨vs,h1,h2.below hb,fun i hi hv=>?_⟩
 obtain ⟨C,c,e1,e2,e3⟩:=h3 i hi hv
 exact ⟨C,c,e1,e2,e3.below hb⟩
theorem Mps.nil (w:World) (A:Option Addr):Mps w A []:=⟨[],rfl,Sl.nil _ _,fun _ hi=>absurd hi (Nat.not_lt_zero _)⟩
theorem Mps.at {w:World} {A:Option Addr} {ms:List Mp} (h:Mps w A ms) {m:Nat} (hm:m < ms.length) :
  ∃b o,A=some ⟨b,o,none⟩∧b < w.heap.size∧∀i,(hi:i < ms.length)→∃C c,w.cell? ⟨b,o+i*3,none⟩=some (.int .i64 ms[i].frm)∧w.cell? ⟨b,o+i*3+1,none⟩=some (.slice C ms[i].toq.length c)∧w.cell? ⟨b,o+i*3+2,none⟩=some (.string ms[i].tag)∧ms[i].toq.length≤c∧Ints w C ms[i].toq:=by
 obtain ⟨vs,h1,h2,h3⟩:=h
 obtain ⟨b,o,rfl,hb,hc⟩:=Recs.at 3 (fun _=>rfl) (by omega) h2 (m:=m) (by rw [List.length_zip];omega)
 refine ⟨b,o,rfl,hb,fun i hi=>?_⟩
 obtain ⟨C,c,e1,e2,e3⟩:=h3 i hi (by omega)
 have hz:i < (ms.zip vs).length:=by rw [List.length_zip];omega
 have hg:(ms.zip vs)[i]=(ms[i],vs[i]'(by omega)):=List.getElem_zip
 refine ⟨C,c,?_,?_,?_,e2,e3⟩
 ·have:=hc i hz 0 (.int .i64 ms[i].frm) (by rw [hg];rfl);exact this
 ·have:=hc i hz 1 (.slice C ms[i].toq.length c) (by rw [hg,e1];rfl);exact this
 ·have:=hc i hz 2 (.string ms[i].tag) (by rw [hg];rfl);exact this
structure MpsSz (ms:List Mp):Prop where
 n:ms.length≤1048576
 e:∀i,(hi:i < ms.length)→ms[i].toq.length≤1048576∧ms[i].tag.size≤9223372036854775807
def bl (a b:ByteArray):Bool:=Op.bytesLess a.toList b.toList
def cmpS (a b:ByteArray):Int:=if bl a b=true then -1 else if bl b a=true then 1 else 0
def cmpM (a b:Mp):Int:=if a.frm < b.frm then -1 else if b.frm < a.frm then 1 else cmpS a.tag b.tag
def keyM (m:Mp):Int × ByteArray:=(m.frm,m.tag)
def mpBad (m:Mp):Bool:=!inR 0 1114111 m.frm || m.toq.any (fun z=>!inR 0 1114111 z)
def tagBad (m:Mp):Bool:=decide (¬m.tag.size=0)&&!nameOk m.tag
def ascM:List Mp→Bool
 | a::b::r=>decide (cmpM a b < 0)&&ascM (b::r)
 | _=>true
def partsErr (ms:List Mp):Int:=if ms.any mpBad then 1 else if ms.any (fun m=>decide (64 < m.toq.length)) then 2 else if ms.any tagBad then 6 else 0
def mapErr (ms:List Mp):Int:=if partsErr ms≠0 then partsErr ms else if ascM ms then 0 else if (ms.map keyM).Nodup then 4 else 5
theorem bytesLess_irrefl:∀a:List UInt8,Op.bytesLess a a=false
 | []=>rfl
 | x::r=>by simp [Op.bytesLess,bytesLess_irrefl r]
theorem bytesLess_total:∀{a b:List UInt8},Op.bytesLess a b=false→Op.bytesLess b a=false→a=b
 | [],[],_,_=>rfl
 | [],_::_,h,_=>by simp [Op.bytesLess] at h
 | _::_,[],_,h=>by simp [Op.bytesLess] at h
 | x::a,y::b,h1,h2=>by
  simp only [Op.bytesLess,Bool.or_eq_false_iff,Bool.and_eq_false_iff,decide_eq_false_iff_not,beq_eq_false_iff_ne] at *
  have e:x=y:=UInt8.le_antisymm (UInt8.not_lt.1 h2.1) (UInt8.not_lt.1 h1.1)
  subst e
  have i1:Op.bytesLess a b=false:=by rcases h1.2 with h | h;exact absurd rfl h;exact h
  have i2:Op.bytesLess b a=false:=by rcases h2.2 with h | h;exact absurd rfl h;exact h
  rw [bytesLess_total i1 i2]
theorem bl_self (a:ByteArray):bl a a=false:=bytesLess_irrefl _
theorem bl_total {a b:ByteArray} (h:bl a b=false) (h':bl b a=false):a=b:=str_inj (bytesLess_total h h')
def hasR (rs:List Rg) (c:Int):Bool:=inR 0 1114111 c&&rs.any (fun r=>inR r.lo r.hi c)
end Go.Proofs.YtkhmjidaeliccaaGreatDoor
