/- Texts that are merged into one file: SetA, SetPlain, Norm, HgKinds, Clone, HgComps, HgDecs. -/
import Derived.Test.YtijgbonhjcblcaaGreatDoorM01
import Derived.Test.YtijgbonhjcblcaaGreatDoorM02
import Derived.Test.YtijgbonhjcblcaaGreatDoorM03
import Derived.RegionTactic
import Derived.BigRegion
import Derived.StillTailTactics
import Derived.Deep.RegionWith
import Derived.Outline
import Derived.IntWalk
import Derived.Test.YtijgbonhjcblcaaGreatDoorProg
import Derived.WalkKit
import Derived.WalkLawsBesides
import Derived.Lib.Hide
import Derived.WalkSpells
set_option maxRecDepth 100000
set_option maxHeartbeats 51200000
namespace Go.Proofs.YtijgbonhjcblcaaGreatDoor
open Go.RowKit Go.Maps Go.WideMaps
def clipOk (r:Rg):Prop:=0≤r.lo∧r.lo≤r.hi∧r.hi≤1114111
def rkey (r:Rg):Int:=r.lo*2097152+r.hi
def rv (x:Rg):Value:=.agg #[.int .i64 x.lo,.int .i64 x.hi]
def RetCmp (p:Prop) (w:World) (x:Ending) (w':World):Prop:=∃c:Int,x=.returned (.int .i64 c)∧(c < 0 ↔ p)∧Below w.heap.size w w'
theorem rkey_cmp {a b:Rg} (ha:clipOk a) (hb:clipOk b):orI (cmpI a.lo b.lo) (cmpI a.hi b.hi) < 0 ↔ rkey a < rkey b:=by
 unfold orI cmpI rkey
 unfold clipOk at ha hb
 by_cases h1:a.lo < b.lo
 ·simp [h1];omega
 ·by_cases h2:b.lo < a.lo
  ·simp [h1,h2];omega
  ·by_cases h3:a.hi < b.hi
   ·simp [h1,h2,h3];omega
   ·by_cases h4:b.hi < a.hi
    ·simp [h1,h2,h3,h4];omega
    ·simp [h1,h2,h3,h4];omega
theorem mkCmp_any (a b:Rg) (ha:clipOk a) (hb:clipOk b) (w:World) :
  Calls Tryz.prog 160 #[rv a,rv b] w (RetCmp (rkey a < rkey b) w):=by
 have B0:Below w.heap.size w ((w.alloc (.cells #[.int .i64 a.lo,.int .i64 a.hi] 131)).alloc (.cells #[.int .i64 b.lo,.int .i64 b.hi] 131)):=((Below.refl _ _).alloc (Nat.le_refl _) _).alloc (by simp) _
 have s0:((w.alloc (.cells #[.int .i64 a.lo,.int .i64 a.hi] 131)).alloc (.cells #[.int .i64 b.lo,.int .i64 b.hi] 131)).heap.size=w.heap.size+2:=by simp
 have hS0:(fun W':World=>W'.cell? ⟨w.heap.size,0,none⟩=some (.int .i64 a.lo)∧W'.cell? ⟨w.heap.size,1,none⟩=some (.int .i64 a.hi)∧W'.cell? ⟨w.heap.size+1,0,none⟩=some (.int .i64 b.lo)∧W'.cell? ⟨w.heap.size+1,1,none⟩=some (.int .i64 b.hi)) ((w.alloc (.cells #[.int .i64 a.lo,.int .i64 a.hi] 131)).alloc (.cells #[.int .i64 b.lo,.int .i64 b.hi] 131)):=by refine ⟨?_,?_,?_,?_⟩ <;> simp
 have W0E:∃W0,((w.alloc (.cells #[.int .i64 a.lo,.int .i64 a.hi] 131)).alloc (.cells #[.int .i64 b.lo,.int .i64 b.hi] 131))=W0:=⟨_,rfl⟩
 have CM:=Lib.hid (rkey_cmp ha hb)
 generalize (rkey a < rkey b)=R at *
 unfold rv
 obtain ⟨al,ah⟩:=a
 obtain ⟨bl',bh⟩:=b
 dsimp only at *
 clear ha hb
 go_enter Tryz.func160,Tryz.ntmps160
 go_wp2_with fail
 obtain ⟨W0,hW0⟩:=W0E
 rw [hW0] at B0 s0 hS0 ⊢
 clear hW0
 have hx0:w.heap.size < W0.heap.size:=by omega
 have hx1:w.heap.size+1 < W0.heap.size:=by omega
 refine wp_region_held_drew (S:=fun W'=>W'.cell? ⟨w.heap.size,0,none⟩=some (.int .i64 al)∧W'.cell? ⟨w.heap.size,1,none⟩=some (.int .i64 ah)∧W'.cell? ⟨w.heap.size+1,0,none⟩=some (.int .i64 bl')∧W'.cell? ⟨w.heap.size+1,1,none⟩=some (.int .i64 bh)) (by kernel_rfl) hS0 (fun hHeld=>?_)
 refine tK 0 5 ?_
 refine tK 1 6 ?_
 refine tK 2 7 ?_
 refine tK 3 8 ?_
 refine tK 5 10 ?_
 refine tK 6 11 ?_
 refine tK 7 12 ?_
 refine tK 8 13 ?_
 refine anyH_callR (R:=fun W'=>W0.drew=W') (i:=4) (some 9) rfl rfl (by kernel_rfl) (by rfl) (by go_simp) ((cmpCompare_any al bl' W0.drew).mono (R':=fun e w'=>e=.returned (.int .i64 (cmpI al bl'))∧_∧W0.drew=w') (fun e w' ⟨he,hw⟩=>⟨he,by subst hw;exact hHeld,hw⟩)) (fun w6 hS6 hR6=>?_)
 subst hR6
 clear hS6
 try simp only [Act.put,List.setIfInBounds_toArray,List.set_cons_zero,List.set_cons_succ]
 refine anyH_callR (R:=fun W'=>W0.drew=W') (i:=9) (some 14) rfl rfl (by kernel_rfl) (by rfl) (by go_simp) ((cmpCompare_any ah bh W0.drew).mono (R':=fun e w'=>e=.returned (.int .i64 (cmpI ah bh))∧_∧W0.drew=w') (fun e w' ⟨he,hw⟩=>⟨he,by subst hw;exact hHeld,hw⟩)) (fun w6 hS6 hR6=>?_)
 subst hR6
 clear hS6
 try simp only [Act.put,List.setIfInBounds_toArray,List.set_cons_zero,List.set_cons_succ]
 generalize cmpI al bl'=x at *
 generalize cmpI ah bh=y at *
 have B1:Below W0.heap.size W0 (W0.drew.alloc (.cells #[.int .i64 x,.int .i64 y] 3)):=((Below.refl _ _).drew).alloc (Nat.le_refl _) _
 have hS1:(fun W':World=>W'.cell? ⟨w.heap.size,0,none⟩=some (.int .i64 al)∧W'.cell? ⟨w.heap.size,1,none⟩=some (.int .i64 ah)∧W'.cell? ⟨w.heap.size+1,0,none⟩=some (.int .i64 bl')∧W'.cell? ⟨w.heap.size+1,1,none⟩=some (.int .i64 bh)) (W0.drew.alloc (.cells #[.int .i64 x,.int .i64 y] 3)):=⟨(B1.cell (p:=⟨w.heap.size,0,none⟩) hx0).trans hHeld.1,(B1.cell (p:=⟨w.heap.size,1,none⟩) hx0).trans hHeld.2.1,(B1.cell (p:=⟨w.heap.size+1,0,none⟩) hx1).trans hHeld.2.2.1,(B1.cell (p:=⟨w.heap.size+1,1,none⟩) hx1).trans hHeld.2.2.2⟩
 have I1:=Ints_new W0.drew [x,y] 3 rfl
 refine anyH_val (w':=W0.drew.alloc (.cells #[.int .i64 x,.int .i64 y] 3)) (v:=.slice (some ⟨W0.drew.heap.size,0,none⟩) 2 2) (i:=10) (some 15) rfl rfl (by kernel_rfl) (by rfl) (by go_simp) hS1 ?_
 try simp only [Act.put,List.setIfInBounds_toArray,List.set_cons_zero,List.set_cons_succ]
 refine anyH_callR (R:=fun W'=>W0.drew.alloc (.cells #[.int .i64 x,.int .i64 y] 3)=W') (i:=11) (some 16) rfl rfl (by kernel_rfl) (by rfl) (by go_simp) ((or2_any _ 2 x y _ I1).mono (R':=fun e w'=>e=.returned (.int .i64 (orI x y))∧_∧W0.drew.alloc (.cells #[.int .i64 x,.int .i64 y] 3)=w') (fun e w' ⟨he,hw⟩=>⟨he,by subst hw;exact hS1,hw⟩)) (fun w6 hS6 hR6=>?_)
 subst hR6
 try simp only [Act.put,List.setIfInBounds_toArray,List.set_cons_zero,List.set_cons_succ]
 refine tK 12 4 ?_
 refine wpAnyH_done (by kernel_rfl) ?_ _
 go_wp2_with fail
 go_ret
 exact ⟨_,rfl,CM.out,B0.trans (B1.mono B0.size)⟩
def RRow (w:World) (base g n c:Nat) (d:List Rg):Prop:=w.ownsRow base 131 2 (.slice (some ⟨g,0,none⟩) n c) n (flatK Rg.cells d)
section
variable {w w':World} {base g n c:Nat} {d:List Rg}
theorem RRow.len (h:RRow w base g n c d):d.length=n:=by
 have:=h.1
 rw [flatK_len Rg.cells 2 (fun _=>rfl)] at this
 omega
theorem RRow.cells (h:RRow w base g n c d) {i:Nat} {x:Rg} (hi:d[i]?=some x):w.cell? ⟨g,i*2,none⟩=some (.int .i64 x.lo)∧w.cell? ⟨g,i*2+1,none⟩=some (.int .i64 x.hi):=by
 obtain ⟨hl,rfl⟩:=List.getElem?_eq_some_iff.1 hi
 have hn:=h.len
 have key:∀j u,(Rg.cells d[i])[j]?=some u→j < 2→w.cell? ⟨g,i*2+j,none⟩=some u:=by
  intro j u hu hj
  rw [World.ownsRow.cellAt h (i*2+j) (by omega),flatK_get Rg.cells 2 (fun _=>rfl) d i j hl hj]
  exact hu
 exact ⟨key 0 _ rfl (by omega),key 1 _ rfl (by omega)⟩
theorem RRow.frozen (h:RRow w base g n c d) (i:Nat):w.frozen? ⟨g,i,none⟩=false:=World.ownsRow.frozenAt h i
theorem RRow.keep (h:RRow w base g n c d) (hb:Below w.heap.size w w'):RRow w' base g n c d:=own_keep h hb
theorem RRow.drew (h:RRow w base g n c d):RRow w.drew base g n c d:=h
theorem RRow.drewN (h:RRow w base g n c d) (k:Nat):RRow (w.drewN k) base g n c d:=h
end
theorem flatR_set (d:List Rg) (i:Nat) (x:Rg) (hi:i < d.length):((flatK Rg.cells d).set (i*2) (.int .i64 x.lo)).set (i*2+1) (.int .i64 x.hi)=flatK Rg.cells (d.set i x):=by
 induction d generalizing i with
 | nil=>simp at hi
 | cons y r ih=>
  cases i with
  | zero=>simp [flatK,Rg.cells]
  | succ i=>
   have h1:=ih i (by simpa using hi)
   simp only [flatK,List.flatMap_cons,Rg.cells,List.cons_append,List.nil_append,List.set_cons_succ] at *
   rw [show (i+1)*2=i*2+1+1 by omega]
   simp only [List.set_cons_succ,h1]
theorem RRow.set {w:World} {base g n c:Nat} {d:List Rg} (h:RRow w base g n c d) {i:Nat} (hi:i < d.length) (x:Rg) :
  RRow ((w.setCell ⟨g,i*2,none⟩ (.int .i64 x.lo)).setCell ⟨g,i*2+1,none⟩ (.int .i64 x.hi)) base g n c (d.set i x)∧
  w.grownBy ((w.setCell ⟨g,i*2,none⟩ (.int .i64 x.lo)).setCell ⟨g,i*2+1,none⟩ (.int .i64 x.hi)) (some g):=by
 have s1:=World.ownsRow.stored h (i*2) (.int .i64 x.lo)
 have s2:=s1.1.stored (i*2+1) (.int .i64 x.hi)
 refine ⟨?_,?_⟩
 ·have h3:=s2.1
  rw [flatR_set d i x hi] at h3
  exact h3
 ·exact ⟨rfl,rfl,rfl,by simp,fun k hk hne=>(s2.2.block k (by simpa using hk) hne).trans (s1.2.block k hk hne)⟩
theorem grown_trans {a w c:World} {r:Option Nat} (h:a.grownBy w r) (g:w.grownBy c r):a.grownBy c r:=
 ⟨g.os.trans h.os,g.tape.trans h.tape,g.output.trans h.output,Nat.le_trans h.size g.size,fun k hk hne=>(g.block k (Nat.lt_of_lt_of_le hk h.size) hne).trans (h.block k hk hne)⟩
theorem grown_refl (w:World) (r:Option Nat):w.grownBy w r:=⟨rfl,rfl,rfl,Nat.le_refl _,fun _ _ _=>rfl⟩
theorem grown_below {a w w':World} {r:Option Nat} (h:a.grownBy w r) (g:Below w.heap.size w w'):a.grownBy w' r:=
 grown_trans h ⟨g.os,g.tape,g.output,g.size,fun k hk _=>g.block k hk⟩
theorem grown_drew {a w:World} {r:Option Nat} (h:a.grownBy w r):a.grownBy w.drew r:=grown_below h (below_of_drewN w 1)
theorem grown_drewN {a w:World} {r:Option Nat} (h:a.grownBy w r) (n:Nat):a.grownBy (w.drewN n) r:=grown_below h (below_of_drewN w n)
def RetR (R:List Rg→Prop) (base g n c:Nat) (w:World) (x:Ending) (w':World):Prop:=x=.returned (.tuple #[])∧∃d',R d'∧RRow w' base g n c d'∧w.grownBy w' (some g)
theorem St_memR {key:Rg→Int} {d d':List Rg} (h:Srt.St key d d') {x:Rg} (hx:x ∈ d'):x ∈ d:=by
 have h1:x ∈ d'.filter (fun y=>key y==key x):=List.mem_filter.2 ⟨hx,by simp⟩
 rw [h (key x)] at h1
 exact (List.mem_filter.1 h1).1
theorem St_memR' {key:Rg→Int} {d d':List Rg} (h:Srt.St key d d') {x:Rg} (hx:x ∈ d):x ∈ d':=by
 have h1:x ∈ d.filter (fun y=>key y==key x):=List.mem_filter.2 ⟨hx,by simp⟩
 rw [←h (key x)] at h1
 exact (List.mem_filter.1 h1).1
theorem get_of_ltR {d:List Rg} {i:Nat} (h:i < d.length):∃x,d[i]?=some x:=⟨d[i],List.getElem?_eq_getElem h⟩
theorem insertR_any (base g n c q:Nat) (d:List Rg) (w:World) (hR:RRow w base g n c d) (hq:q≤n) (hbig:n≤1048576) (hok:∀x ∈ d,clipOk x) :
  Calls Tryz.prog 172 #[.slice (some ⟨g,0,none⟩) n c,.int .i64 0,.int .i64 q,.func (.func 160) #[] #[]] w
   (RetR (fun d'=>Srt.Done rkey d d' 0 q) base g n c w):=by
 have hn:=hR.len
 subst hn
 have HOK:=Lib.hid hok;clear hok
 go_enter Tryz.func172,Tryz.ntmps172
 go_wp2
 go_loopw [8] (fun i wr=>∃(k:Nat) (d1:List Rg),1≤k∧(k≤q∨k=1)∧i=.int .i64 k∧Srt.Same d d1 0 q∧Srt.St rkey d d1∧Srt.SortedOn rkey d1 0 k∧RRow wr base g d.length c d1∧w.grownBy wr (some g)) (fun i _=>q - (intOf i).toNat)
 case atStart=>exact ⟨1,d,Nat.le_refl _,.inr rfl,rfl,Srt.Same.refl _ _ _,Srt.St.refl _,Srt.SortedOn.short (by omega),hR,grown_refl _ _⟩
 case round=>
  obtain ⟨k,d1,hk1,hk2,rfl,hsame,hst,hso,hR1,hg⟩:=hrel
  have HA:=Lib.hid hsame;have HT:=Lib.hid hst;have HO:=Lib.hid hso
  clear hsame hst hso
  by_cases hlt:k < q
  ·obtain ⟨wo,rfl⟩:∃wo:World,wo=wr:=⟨_,rfl⟩
   go_wp2
   go_loopw [9] (fun i wr=>∃(j:Nat) (d2:List Rg),j≤k∧i=.int .i64 j∧Srt.Same d d2 0 q∧Srt.St rkey d d2∧Srt.Ins rkey d2 0 k j∧RRow wr base g d.length c d2∧w.grownBy wr (some g)) (fun i _=>(intOf i).toNat)
   case atStart=>exact ⟨k,d1,Nat.le_refl _,rfl,HA.out,HT.out,Srt.Ins.start HO.out,hR1,hg⟩
   case round=>
    obtain ⟨j,d2,hj2,rfl,hsame,hst,hins,hR2,hg2⟩:=hrel
    have HA2:=Lib.hid hsame;have HT2:=Lib.hid hst;have HI:=Lib.hid hins
    clear hsame hst hins
    by_cases hpj:0 < j
    ·have hjn:j < d.length:=by omega
     obtain ⟨x,hx⟩:=get_of_ltR (d:=d2) (i:=j - 1) (by rw [HA2.out.1];omega)
     obtain ⟨y,hy⟩:=get_of_ltR (d:=d2) (i:=j) (by rw [HA2.out.1];omega)
     obtain ⟨x1,x2⟩:=hR2.cells hx
     obtain ⟨y1,y2⟩:=hR2.cells hy
     have HX:=Lib.hid hx;have HY:=Lib.hid hy
     have C:=Lib.hid (fun W=>mkCmp_any y x (HOK.out y (St_memR HT2.out (List.mem_of_getElem? hy))) (HOK.out x (St_memR HT2.out (List.mem_of_getElem? hx))) W)
     clear hx hy
     have i0:decide ((0:Int) < (j:Int))=true:=by simp;omega
     have i1:IntKind.i64.wrap ((j:Int) - 1)=(j:Int) - 1:=IntWalk.i64_in _ (by omega)
     have i2:(0:Int)≤(j:Int) - 1:=by omega
     have i2':(1:Int)≤(j:Int):=by omega
     have i2'':1≤j:=by omega
     have i3:((j:Int) - 1).toNat=j - 1:=by omega
     have i4:(j:Int) - 1 < (d.length:Int):=by omega
     have i5:(j:Int) < (d.length:Int):=by omega
     unfold rv at C
     go_wp2
     refine wp_region_still_tail 14 (by kernel_rfl) (by kernel_rfl) ?_
     simp only [List.take_succ_cons,List.take_zero,List.drop_succ_cons,List.drop_zero]
     change wpStill _ _ wr.drew _ _ _
     repeat still_step
     refine wpStill_nil ?_
     change wpList _ _ _ _ _ wr.drew
     go_wp2_with fail
     refine (C.out _).mono ?_
     rintro e w3 ⟨cc,rfl,hcc,hb3⟩
     have hR3:=(hR2.drew).keep hb3
     have hg3:=grown_below (grown_drew hg2) hb3
     obtain ⟨x1',x2'⟩:=hR3.cells HX.out
     obtain ⟨y1',y2'⟩:=hR3.cells HY.out
     have fr:=hR3.frozen
     clear hR2 hg2 hb3 x1 x2 y1 y2
     by_cases hkey:rkey y < rkey x
     ·have hneg:cc < 0:=hcc.2 hkey
      have HKEY:=Lib.hid hkey
      clear hcc hkey
      have hne:¬(j - 1=j):=by omega
      have HR3:=Lib.hid hR3
      clear hR3
      go_wp2
      go_region
      go_wp2_with fail
      go_roundw
      case rel=>
       have st1:=HR3.out.set (i:=j) (by rw [HA2.out.1];omega) x
       have st2:=st1.1.set (i:=j - 1) (by rw [List.length_set,HA2.out.1];omega) y
       refine ⟨j - 1,Srt.swp d2 (j - 1) j x y,by omega,by go_num,HA2.out.trans (Srt.swp_same HX.out HY.out (by omega) (by omega) (by omega) (by omega) (by omega)),HT2.out.trans ?_,?_,?_,?_⟩
       ·have:=Srt.swp_done (key:=rkey) (d:=d2) (j:=j - 1) HX.out (by rw [show j - 1+1=j by omega];exact HY.out) HKEY.out
        rw [show j - 1+1=j by omega] at this;exact this
       ·have:=Srt.Ins.step (key:=rkey) (d:=d2) (a:=0) (i:=k) (j:=j - 1) (x:=x) (y:=y) (by rw [show j - 1+1=j by omega];exact HI.out) (by omega) (by omega) HX.out (by rw [show j - 1+1=j by omega];exact HY.out) HKEY.out
        rw [show j - 1+1=j by omega] at this;exact this
       ·rw [Srt.swp,List.set_comm _ _ (by omega)]
        exact st2.1.drew
       ·exact grown_drew (grown_trans hg3 (grown_trans st1.2 st2.2))
      case measure=>simp [intOf];omega
     ·have hneg:¬cc < 0:=fun h=>hkey (hcc.1 h)
      clear hcc
      go_wp2
      go_roundw
      case rel=>
       refine ⟨k+1,d2,by omega,.inl (by omega),by go_num,HA2.out,HT2.out,HI.out.stop (by omega) hj2 (.inr ?_),hR3,hg3⟩
       rw [Srt.kf_some HX.out,Srt.kf_some HY.out];omega
      case measure=>simp [intOf];omega
    ·have i0:decide ((0:Int) < (j:Int))=false:=by simp;omega
     go_wp2
     go_quiet (fail)
     go_wp2
     go_roundw
     case rel=>exact ⟨k+1,d2,by omega,.inl (by omega),by go_num,HA2.out,HT2.out,HI.out.stop (by omega) hj2 (.inl (by omega)),hR2.drewN _,grown_drewN hg2 _⟩
     case measure=>simp [intOf];omega
  ·go_wp2
   go_end0
   refine ⟨rfl,d1,⟨HA.out,HT.out,?_⟩,hR1,hg⟩
   by_cases hkq:q≤k
   ·exact HO.out.sub (Nat.le_refl _) hkq
   ·omega
theorem pdqR_any (base g n c:Nat) (z:Int) (d:List Rg) (w:World) (hR:RRow w base g n c d) (hbig:n≤12) (hok:∀x ∈ d,clipOk x) :
  Calls Tryz.prog 169 #[.slice (some ⟨g,0,none⟩) n c,.int .i64 0,.int .i64 n,.int .i64 z,.func (.func 160) #[] #[]] w
   (RetR (fun d'=>Srt.Done rkey d d' 0 n) base g n c w):=by
 have C:=Lib.hid (insertR_any base g n c n d w hR (Nat.le_refl _) (by omega) hok)
 clear hR hok
 have q1:decide ((n:Int)≤12)=true:=by simp;omega
 have q2:decide (n≤12)=true:=by simp;omega
 go_enter Tryz.func169,Tryz.ntmps169
 go_wp2_with fail
 refine wp_loop_rounds 1 ?_
 rw [rounds_succ]
 go_wp2_with fail
 refine C.out.mono ?_
 rintro e w1 ⟨rfl,d1,hD,hR1,hg1⟩
 have HD:=Lib.hid (And.intro hD (And.intro hR1 hg1))
 clear hD hR1 hg1
 go_wp2_with fail
 go_end0
 exact ⟨rfl,d1,HD.out.1,HD.out.2.1,HD.out.2.2⟩
end Go.Proofs.YtijgbonhjcblcaaGreatDoor
namespace Go.Proofs.YtijgbonhjcblcaaGreatDoor
open Go.RowKit
def anyR (rs:List Rg) (c:Int):Bool:=rs.any (fun r=>inR r.lo r.hi c)
theorem hasR_any {rs:List Rg} {c:Int} (h1:0≤c) (h2:c≤1114111):hasR rs c=anyR rs c:=by unfold hasR anyR;rw [inR_true h1 h2,Bool.true_and]
theorem anyR_iff {rs:List Rg} {c:Int}:anyR rs c=true ↔ ∃r ∈ rs,r.lo≤c∧c≤r.hi:=by
 unfold anyR
 rw [List.any_eq_true]
 constructor
 ·rintro ⟨r,hr,h⟩;exact ⟨r,hr,inR_iff.1 h⟩
 ·rintro ⟨r,hr,h⟩;exact ⟨r,hr,inR_iff.2 h⟩
def okR (rs:List Rg):Prop:=(∀r ∈ rs,clipOk r)∧rs.Pairwise (fun a b=>a.hi+1 < b.lo)
theorem okR.nil:okR []:=⟨fun _ h=>(by cases h),List.Pairwise.nil⟩
theorem okR_unique:∀{xs ys:List Rg},okR xs→okR ys→(∀c,0≤c→c≤1114111→(anyR xs c=true ↔ anyR ys c=true))→xs=ys
 | [],[],_,_,_=>rfl
 | [],y::s,_,hy,h=>by
  have hc:=hy.1 y (by simp)
  unfold clipOk at hc
  have:=(h y.lo hc.1 (by omega)).2 (anyR_iff.2 ⟨y,by simp,by omega,hc.2.1⟩)
  obtain ⟨r,hr,_⟩:=anyR_iff.1 this
  cases hr
 | x::r,[],hx,_,h=>by
  have hc:=hx.1 x (by simp)
  unfold clipOk at hc
  have:=(h x.lo hc.1 (by omega)).1 (anyR_iff.2 ⟨x,by simp,by omega,hc.2.1⟩)
  obtain ⟨r,hr,_⟩:=anyR_iff.1 this
  cases hr
 | x::r,y::s,hx,hy,h=>by
  have cx:=hx.1 x (by simp)
  have cy:=hy.1 y (by simp)
  obtain ⟨px,qx⟩:=List.pairwise_cons.1 hx.2
  obtain ⟨py,qy⟩:=List.pairwise_cons.1 hy.2
  unfold clipOk at cx cy
  have lo:x.lo=y.lo:=by
   rcases Int.lt_trichotomy x.lo y.lo with g | g | g
   ·have:=(h x.lo cx.1 (by omega)).1 (anyR_iff.2 ⟨x,by simp,by omega,cx.2.1⟩)
    obtain ⟨t,ht,t1,t2⟩:=anyR_iff.1 this
    rcases List.mem_cons.1 ht with rfl | ht
    ·omega
    ·have:=py t ht;omega
   ·exact g
   ·have:=(h y.lo cy.1 (by omega)).2 (anyR_iff.2 ⟨y,by simp,by omega,cy.2.1⟩)
    obtain ⟨t,ht,t1,t2⟩:=anyR_iff.1 this
    rcases List.mem_cons.1 ht with rfl | ht
    ·omega
    ·have:=px t ht;omega
  have hi:x.hi=y.hi:=by
   rcases Int.lt_trichotomy x.hi y.hi with g | g | g
   ·have:=(h (x.hi+1) (by omega) (by omega)).2 (anyR_iff.2 ⟨y,by simp,by omega,by omega⟩)
    obtain ⟨t,ht,t1,t2⟩:=anyR_iff.1 this
    rcases List.mem_cons.1 ht with rfl | ht
    ·omega
    ·have:=px t ht;omega
   ·exact g
   ·have:=(h (y.hi+1) (by omega) (by omega)).1 (anyR_iff.2 ⟨x,by simp,by omega,by omega⟩)
    obtain ⟨t,ht,t1,t2⟩:=anyR_iff.1 this
    rcases List.mem_cons.1 ht with rfl | ht
    ·omega
    ·have:=py t ht;omega
  have e:x=y:=by cases x;cases y;simp_all
  subst e
  rw [okR_unique (xs:=r) (ys:=s) ⟨fun t ht=>hx.1 t (by simp [ht]),qx⟩ ⟨fun t ht=>hy.1 t (by simp [ht]),qy⟩ (fun c c0 c1=>?_)]
  constructor
  ·intro g
   obtain ⟨t,ht,t1,t2⟩:=anyR_iff.1 g
   have:=px t ht
   obtain ⟨u,hu,u1,u2⟩:=anyR_iff.1 ((h c c0 c1).1 (anyR_iff.2 ⟨t,by simp [ht],t1,t2⟩))
   rcases List.mem_cons.1 hu with rfl | hu
   ·omega
   ·exact anyR_iff.2 ⟨u,hu,u1,u2⟩
  ·intro g
   obtain ⟨t,ht,t1,t2⟩:=anyR_iff.1 g
   have:=py t ht
   obtain ⟨u,hu,u1,u2⟩:=anyR_iff.1 ((h c c0 c1).2 (anyR_iff.2 ⟨t,by simp [ht],t1,t2⟩))
   rcases List.mem_cons.1 hu with rfl | hu
   ·omega
   ·exact anyR_iff.2 ⟨u,hu,u1,u2⟩
def clip1 (r:Rg):Rg:=⟨max r.lo 0,min r.hi 1114111⟩
def clipL (rs:List Rg):List Rg:=(rs.map clip1).filter (fun r=>decide (r.lo≤r.hi))
theorem clipL_take {rs:List Rg} {i:Nat} (hi:i < rs.length):clipL (rs.take (i+1))=clipL (rs.take i)++(if (clip1 rs[i]).lo≤(clip1 rs[i]).hi then [clip1 rs[i]] else []):=by
 unfold clipL
 rw [List.take_succ_eq_append_getElem hi,List.map_append,List.filter_append]
 congr 1
 by_cases h:(clip1 rs[i]).lo≤(clip1 rs[i]).hi <;> simp [h]
theorem clipL_len (rs:List Rg):(clipL rs).length≤rs.length:=by
 unfold clipL
 have:=List.length_filter_le (fun r:Rg=>decide (r.lo≤r.hi)) (rs.map clip1)
 rw [List.length_map] at this
 exact this
theorem clipL_ok (rs:List Rg):∀r ∈ clipL rs,clipOk r:=by
 intro r hr
 unfold clipL at hr
 rw [List.mem_filter,List.mem_map] at hr
 obtain ⟨⟨q,_,rfl⟩,h⟩:=hr
 simp at h
 unfold clipOk
 unfold clip1 at *
 dsimp only at *
 omega
theorem clipL_any {rs:List Rg} {c:Int} (h1:0≤c) (h2:c≤1114111):anyR (clipL rs) c=true ↔ anyR rs c=true:=by
 rw [anyR_iff,anyR_iff]
 constructor
 ·rintro ⟨r,hr,a,b⟩
  unfold clipL at hr
  rw [List.mem_filter,List.mem_map] at hr
  obtain ⟨⟨q,hq,rfl⟩,_⟩:=hr
  unfold clip1 at a b
  dsimp only at a b
  exact ⟨q,hq,by omega,by omega⟩
 ·rintro ⟨q,hq,a,b⟩
  refine ⟨clip1 q,?_,?_,?_⟩
  ·unfold clipL
   rw [List.mem_filter,List.mem_map]
   refine ⟨⟨q,hq,rfl⟩,?_⟩
   unfold clip1
   simp
   omega
  ·unfold clip1;dsimp only;omega
  ·unfold clip1;dsimp only;omega
def growL:List Rg→Int→List Rg
 | [],_=>[]
 | [x],h=>[⟨x.lo,max x.hi h⟩]
 | x::y::r,h=>x::growL (y::r) h
theorem growL_len:∀(l:List Rg) (h:Int),(growL l h).length=l.length
 | [],_=>rfl
 | [_],_=>rfl
 | x::y::r,h=>by simp only [growL,List.length_cons,growL_len (y::r) h]
theorem growL_set:∀{l:List Rg} {n:Nat} (hn:l.length=n+1) (h:Int),growL l h=l.set n ⟨(l[n]'(by omega)).lo,max (l[n]'(by omega)).hi h⟩
 | [x],0,_,h=>rfl
 | x::y::r,n+1,hn,h=>by
  have:=growL_set (l:=y::r) (n:=n) (by simpa using hn) h
  simp only [growL,List.set_cons_succ,this,List.getElem_cons_succ]
def mrg (out:List Rg) (r:Rg):List Rg:=match out.getLast? with | some l=>if r.lo≤l.hi+1 then growL out r.hi else out++[r] | none=>[r]
structure Mg (ps out:List Rg) (b:Int):Prop where
 ok:okR out
 any:∀c,anyR out c=true ↔ anyR ps c=true
 lo:∀r ∈ out,r.lo≤b
theorem Mg.nil (b:Int):Mg [] [] b:=⟨okR.nil,fun _=>Iff.rfl,fun _ h=>(by cases h)⟩
theorem growL_mem:∀{l:List Rg} {h:Int} {r:Rg},r ∈ growL l h→∃q ∈ l,q.lo=r.lo∧(r.hi=q.hi∨(l.getLast?=some q∧r.hi=max q.hi h))
 | [x],h,r,hr=>by
  simp only [growL,List.mem_singleton] at hr
  subst hr
  exact ⟨x,by simp,rfl,.inr ⟨rfl,rfl⟩⟩
 | x::y::l,h,r,hr=>by
  simp only [growL,List.mem_cons] at hr
  rcases hr with rfl | hr
  ·exact ⟨r,by simp,rfl,.inl rfl⟩
  ·obtain ⟨q,hq,h1,h2⟩:=growL_mem hr
   exact ⟨q,by simp [hq],h1,h2.imp id (fun ⟨a,b⟩=>⟨by rw [List.getLast?_cons_cons];exact a,b⟩)⟩
theorem growL_any:∀{l:List Rg} {x q:Rg} {c:Int},l.getLast?=some x→x.lo≤q.lo→q.lo≤x.hi+1→x.lo≤x.hi→(anyR (growL l q.hi) c=true ↔ (anyR l c=true∨(q.lo≤c∧c≤q.hi)))
 | [y],x,q,c,hl,h1,h2,h3=>by
  simp at hl
  subst hl
  rw [anyR_iff,anyR_iff]
  simp only [growL,List.mem_singleton]
  constructor
  ·rintro ⟨_,rfl,a,b⟩
   dsimp only at a b
   by_cases g:c≤y.hi
   ·exact .inl ⟨y,rfl,a,g⟩
   ·exact .inr (by omega)
  ·rintro (⟨_,rfl,a,b⟩ | ⟨a,b⟩)
   ·exact ⟨_,rfl,a,by dsimp only;omega⟩
   ·exact ⟨_,rfl,by dsimp only;omega,by dsimp only;omega⟩
 | z::y::r,x,q,c,hl,h1,h2,h3=>by
  rw [List.getLast?_cons_cons] at hl
  have ih:=growL_any (l:=y::r) (x:=x) (q:=q) (c:=c) hl h1 h2 h3
  simp only [growL]
  have e:∀(s:List Rg),anyR (z::s) c=true ↔ (inR z.lo z.hi c=true∨anyR s c=true):=fun s=>by unfold anyR;rw [List.any_cons,Bool.or_eq_true]
  rw [e,e,ih,or_assoc]
theorem growL_pw:∀{l:List Rg} {h:Int},l.Pairwise (fun a b=>a.hi+1 < b.lo)→(growL l h).Pairwise (fun a b=>a.hi+1 < b.lo)
 | [],_,_=>List.Pairwise.nil
 | [x],_,_=>List.pairwise_singleton _ _
 | x::y::r,h,hp=>by
  obtain ⟨p1,p2⟩:=List.pairwise_cons.1 hp
  simp only [growL]
  refine List.pairwise_cons.2 ⟨fun t ht=>?_,growL_pw p2⟩
  obtain ⟨q,hq,h1,_⟩:=growL_mem ht
  have:=p1 q hq
  omega
theorem anyR_append {xs ys:List Rg} {c:Int}:anyR (xs++ys) c=true ↔ (anyR xs c=true∨anyR ys c=true):=by unfold anyR;rw [List.any_append,Bool.or_eq_true]
theorem anyR_one {q:Rg} {c:Int}:anyR [q] c=true ↔ (q.lo≤c∧c≤q.hi):=by unfold anyR;simp [inR_iff]
theorem last_max:∀{l:List Rg} {x:Rg},(∀r ∈ l,clipOk r)→l.Pairwise (fun a b=>a.hi+1 < b.lo)→l.getLast?=some x→∀r ∈ l,r.hi≤x.hi
 | [],_,_,_,h,_,_=>by cases h
 | [y],x,_,_,h,r,hr=>by simp at h hr;subst h;subst hr;exact Int.le_refl _
 | z::y::l,x,hc,hp,h,r,hr=>by
  rw [List.getLast?_cons_cons] at h
  obtain ⟨p1,p2⟩:=List.pairwise_cons.1 hp
  have ih:=last_max (l:=y::l) (fun t ht=>hc t (by simp [ht])) p2 h
  rcases List.mem_cons.1 hr with rfl | hr
  ·have h1:=p1 y (by simp)
   have h2:=hc y (by simp)
   have h3:=ih y (by simp)
   unfold clipOk at h2
   omega
  ·exact ih r hr
theorem Mg.step {ps out:List Rg} {b:Int} {q:Rg} (h:Mg ps out b) (hb:b≤q.lo) (hq:clipOk q):Mg (ps++[q]) (mrg out q) q.lo:=by
 obtain ⟨⟨o1,o2⟩,ha,hl⟩:=h
 unfold clipOk at hq
 unfold mrg
 cases hx:out.getLast? with
 | none=>
  have:out=[]:=List.getLast?_eq_none_iff.1 hx
  subst this
  refine ⟨⟨fun r hr=>?_,List.pairwise_singleton _ _⟩,fun c=>?_,fun r hr=>?_⟩
  ·simp at hr;subst hr;exact hq
  ·rw [anyR_append,←ha c]
   have:¬anyR [] c=true:=by unfold anyR;simp
   simp [this]
  ·simp at hr;subst hr;exact Int.le_refl _
 | some x=>
  have hxm:x ∈ out:=List.mem_of_getLast? hx
  have hxo:=o1 x hxm
  have hxl:=hl x hxm
  unfold clipOk at hxo
  simp only
  split
  ·next g=>
   refine ⟨⟨fun r hr=>?_,growL_pw o2⟩,fun c=>?_,fun r hr=>?_⟩
   ·obtain ⟨t,ht,h1,h2⟩:=growL_mem hr
    have:=o1 t ht
    unfold clipOk at this ⊢
    rcases h2 with h2 | ⟨_,h2⟩ <;> omega
   ·rw [growL_any hx (by omega) g (by omega),anyR_append,ha c,anyR_one]
   ·obtain ⟨t,ht,h1,_⟩:=growL_mem hr
    have:=hl t ht
    omega
  ·next g=>
   have hm:=last_max o1 o2 hx
   refine ⟨⟨fun r hr=>?_,?_⟩,fun c=>?_,fun r hr=>?_⟩
   ·rcases List.mem_append.1 hr with hr | hr
    ·exact o1 r hr
    ·simp at hr;subst hr;exact hq
   ·rw [List.pairwise_append]
    refine ⟨o2,List.pairwise_singleton _ _,fun a ha' t ht=>?_⟩
    simp at ht
    subst ht
    have:=hm a ha'
    omega
   ·rw [anyR_append,anyR_append,ha c]
   ·rcases List.mem_append.1 hr with hr | hr
    ·have:=hl r hr;omega
    ·simp at hr;subst hr;exact Int.le_refl _
def placeL:List Int→Int→List Int
 | [],n=>[n]
 | x::r,n=>if n≤x then (if n < x then n::x::r else x::r) else x::placeL r n
theorem placeL_mem:∀{l:List Int} {n x:Int},x ∈ placeL l n ↔ (x=n∨x ∈ l)
 | [],n,x=>by simp [placeL]
 | y::r,n,x=>by
  simp only [placeL]
  split
  ·split
   ·simp
   ·have:n=y:=by omega
    subst this
    simp
  ·rw [List.mem_cons,placeL_mem,List.mem_cons]
   constructor
   ·rintro (h | h | h)
    ·exact .inr (.inl h)
    ·exact .inl h
    ·exact .inr (.inr h)
   ·rintro (h | h | h)
    ·exact .inr (.inl h)
    ·exact .inl h
    ·exact .inr (.inr h)
theorem placeL_asc:∀{l:List Int} {n:Int},l.Pairwise (· < ·)→(placeL l n).Pairwise (· < ·)
 | [],n,_=>List.pairwise_singleton _ _
 | y::r,n,h=>by
  obtain ⟨h1,h2⟩:=List.pairwise_cons.1 h
  simp only [placeL]
  split
  ·split
   ·refine List.pairwise_cons.2 ⟨fun t ht=>?_,h⟩
    rcases List.mem_cons.1 ht with rfl | ht
    ·assumption
    ·have:=h1 t ht;omega
   ·exact h
  ·refine List.pairwise_cons.2 ⟨fun t ht=>?_,placeL_asc h2⟩
   rcases placeL_mem.1 ht with rfl | ht
   ·omega
   ·exact h1 t ht
def cut1 (l:List Int) (r:Rg):List Int:=
 let l1:=if inR 0 1114111 r.lo=true then placeL l r.lo else l
 if 0≤r.hi∧r.hi < 1114111 then placeL l1 (r.hi+1) else l1
def cutsL (l:List Int) (rs:List Rg):List Int:=placeL (rs.foldl cut1 l) 0
theorem cut_take {rs:List Rg} {l:List Int} {i:Nat} (hi:i < rs.length):(rs.take (i+1)).foldl cut1 l=cut1 ((rs.take i).foldl cut1 l) rs[i]:=by
 rw [List.take_succ_eq_append_getElem hi,List.foldl_append];rfl
structure Ct (rs:List Rg) (l:List Int):Prop where
 asc:l.Pairwise (· < ·)
 bd:∀x ∈ l,0≤x∧x≤1114111
 lo:∀r ∈ rs,0≤r.lo→r.lo≤1114111→r.lo ∈ l
 hi:∀r ∈ rs,0≤r.hi→r.hi < 1114111→r.hi+1 ∈ l
theorem Ct.nil:Ct [] []:=⟨List.Pairwise.nil,fun _ h=>(by cases h),fun _ h=>(by cases h),fun _ h=>(by cases h)⟩
theorem Ct.place {rs:List Rg} {l:List Int} (h:Ct rs l) {n:Int} (h1:0≤n) (h2:n≤1114111):Ct rs (placeL l n):=
 ⟨placeL_asc h.asc,fun x hx=>by rcases placeL_mem.1 hx with rfl | hx;exact ⟨h1,h2⟩;exact h.bd x hx,fun r hr a b=>placeL_mem.2 (.inr (h.lo r hr a b)),fun r hr a b=>placeL_mem.2 (.inr (h.hi r hr a b))⟩
theorem Ct.step {rs:List Rg} {l:List Int} (h:Ct rs l) (r:Rg):Ct (rs++[r]) (cut1 l r):=by
 unfold cut1
 have h1:∃l1,(if inR 0 1114111 r.lo=true then placeL l r.lo else l)=l1∧Ct rs l1∧(0≤r.lo→r.lo≤1114111→r.lo ∈ l1):=by
  by_cases g:inR 0 1114111 r.lo=true
  ·have gg:=inR_iff.1 g
   exact ⟨_,rfl,by rw [if_pos g];exact h.place gg.1 gg.2,fun _ _=>by rw [if_pos g];exact placeL_mem.2 (.inl rfl)⟩
  ·refine ⟨_,rfl,by rw [if_neg g];exact h,fun a b=>absurd (inR_true a b) g⟩
 obtain ⟨l1,e,c1,c2⟩:=h1
 dsimp only
 rw [e]
 have h2:∃l2,(if 0≤r.hi∧r.hi < 1114111 then placeL l1 (r.hi+1) else l1)=l2∧Ct rs l2∧(0≤r.lo→r.lo≤1114111→r.lo ∈ l2)∧(0≤r.hi→r.hi < 1114111→r.hi+1 ∈ l2):=by
  by_cases g:0≤r.hi∧r.hi < 1114111
  ·exact ⟨_,rfl,by rw [if_pos g];exact c1.place (by omega) (by omega),fun a b=>by rw [if_pos g];exact placeL_mem.2 (.inr (c2 a b)),fun _ _=>by rw [if_pos g];exact placeL_mem.2 (.inl rfl)⟩
  ·exact ⟨_,rfl,by rw [if_neg g];exact c1,fun a b=>by rw [if_neg g];exact c2 a b,fun a b=>absurd ⟨a,b⟩ g⟩
 obtain ⟨l2,e2,d1,d2,d3⟩:=h2
 rw [e2]
 refine ⟨d1.asc,d1.bd,fun t ht a b=>?_,fun t ht a b=>?_⟩
 ·rcases List.mem_append.1 ht with ht | ht
  ·exact d1.lo t ht a b
  ·simp at ht;subst ht;exact d2 a b
 ·rcases List.mem_append.1 ht with ht | ht
  ·exact d1.hi t ht a b
  ·simp at ht;subst ht;exact d3 a b
theorem Ct.fold:∀(rs:List Rg) {qs:List Rg} {l:List Int},Ct qs l→Ct (qs++rs) (rs.foldl cut1 l)
 | [],qs,l,h=>by simpa using h
 | r::rs,qs,l,h=>by
  have:=Ct.fold rs (h.step r)
  rw [List.append_assoc] at this
  exact this
theorem Ct.cuts {rs qs:List Rg} {l:List Int} (h:Ct qs l):Ct (qs++rs) (cutsL l rs)∧0 ∈ cutsL l rs:=
 ⟨(Ct.fold rs h).place (by omega) (by omega),placeL_mem.2 (.inl rfl)⟩
def nxt (cs:List Int) (k:Nat):Int:=(cs[k]?).getD 1114112
def bld (p:Int→Bool) (cs:List Int):Nat→List Rg × Bool
 | 0=>([],false)
 | k+1=>
  let s:=bld p cs k
  let c:=nxt cs k
  let h:=nxt cs (k+1) - 1
  if p c=true then (if s.2=true then growL s.1 h else s.1++[⟨c,h⟩],true) else (s.1,false)
def canR (rs:List Rg):List Rg:=(bld (hasR rs) (cutsL (cutsL [] rs) []) (cutsL (cutsL [] rs) []).length).1
structure Bd (p:Int→Bool) (out:List Rg) (o:Bool) (n:Int):Prop where
 ok:okR out
 any:∀c,0≤c→c < n→(anyR out c=true ↔ p c=true)
 hi:∀r ∈ out,r.hi < n
 yes:o=true→∃x,out.getLast?=some x∧x.hi=n - 1
 no:o=false→∀r ∈ out,r.hi+1 < n
theorem Bd.step {p:Int→Bool} {out:List Rg} {o:Bool} {n m:Int} (h:Bd p out o n) (h0:0≤n) (hm:n < m) (hmx:m≤1114112) (hc:∀c,n≤c→c < m→p c=p n) :
  Bd p (if p n=true then (if o=true then growL out (m - 1) else out++[⟨n,m - 1⟩],true) else (out,false)).1 (if p n=true then (if o=true then growL out (m - 1) else out++[⟨n,m - 1⟩],true) else (out,false)).2 m:=by
 obtain ⟨⟨o1,o2⟩,ha,hh,hy,hn⟩:=h
 by_cases hp:p n=true
 ·rw [if_pos hp]
  dsimp only
  cases o with
  | true=>
   rw [if_pos rfl]
   obtain ⟨x,hx,hxh⟩:=hy rfl
   have hxm:=List.mem_of_getLast? hx
   have hxo:=o1 x hxm
   unfold clipOk at hxo
   refine ⟨⟨fun r hr=>?_,growL_pw o2⟩,fun c c0 c1=>?_,fun r hr=>?_,fun _=>?_,fun e=>by cases e⟩
   ·obtain ⟨t,ht,h1,h2⟩:=growL_mem hr
    have:=o1 t ht
    unfold clipOk at this ⊢
    rcases h2 with h2 | ⟨_,h2⟩ <;> omega
   ·rw [growL_any (q:=⟨n,m - 1⟩) hx (by dsimp only;omega) (by dsimp only;omega) (by omega)]
    dsimp only
    by_cases g:c < n
    ·rw [ha c c0 g]
     constructor
     ·rintro (h | h)
      ·exact h
      ·omega
     ·exact .inl
    ·rw [hc c (by omega) c1]
     exact ⟨fun _=>hp,fun _=>.inr (by omega)⟩
   ·obtain ⟨t,ht,h1,h2⟩:=growL_mem hr
    have:=hh t ht
    rcases h2 with h2 | ⟨_,h2⟩ <;> omega
   ·have hne:out≠[]:=by rintro rfl;cases hx
    obtain ⟨k,hk⟩:∃k,out.length=k+1:=⟨out.length - 1,by have:=List.length_pos_iff.2 hne;omega⟩
    rw [growL_set hk]
    have hxk:out[k]'(by omega)=x:=by
     rw [List.getLast?_eq_getElem?,hk] at hx
     simp at hx
     exact (List.getElem?_eq_some_iff.1 hx).2
    rw [hxk]
    refine ⟨⟨x.lo,max x.hi (m - 1)⟩,?_,by dsimp only;omega⟩
    rw [List.getLast?_eq_getElem?,List.length_set,hk]
    simp [hk]
  | false=>
   rw [if_neg (by simp)]
   have hn':=hn rfl
   refine ⟨⟨fun r hr=>?_,?_⟩,fun c c0 c1=>?_,fun r hr=>?_,fun _=>⟨⟨n,m - 1⟩,by simp,rfl⟩,fun e=>by cases e⟩
   ·rcases List.mem_append.1 hr with hr | hr
    ·exact o1 r hr
    ·simp at hr;subst hr;unfold clipOk;dsimp only;omega
   ·rw [List.pairwise_append]
    refine ⟨o2,List.pairwise_singleton _ _,fun a ha' t ht=>?_⟩
    simp at ht
    subst ht
    exact hn' a ha'
   ·rw [anyR_append,anyR_one]
    dsimp only
    by_cases g:c < n
    ·rw [ha c c0 g]
     constructor
     ·rintro (h | h)
      ·exact h
      ·omega
     ·exact .inl
    ·rw [hc c (by omega) c1]
     exact ⟨fun _=>hp,fun _=>.inr (by omega)⟩
   ·rcases List.mem_append.1 hr with hr | hr
    ·have:=hh r hr;omega
    ·simp at hr;subst hr;dsimp only;omega
 ·rw [if_neg hp]
  dsimp only
  refine ⟨⟨o1,o2⟩,fun c c0 c1=>?_,(fun r hr=>by have:=hh r hr;omega),(fun e=>by cases e),(fun _ r hr=>by have:=hh r hr;omega)⟩
  by_cases g:c < n
  ·exact ha c c0 g
  ·rw [hc c (by omega) c1]
   constructor
   ·intro h
    obtain ⟨r,hr,a,b⟩:=anyR_iff.1 h
    have:=hh r hr
    omega
   ·intro h;exact absurd h hp
theorem asc_none {cs:List Int} (h:cs.Pairwise (· < ·)) {k:Nat} (hk:k < cs.length) {x:Int} (hx:x ∈ cs) (h1:cs[k] < x):nxt cs (k+1)≤x:=by
 obtain ⟨j,hj,rfl⟩:=List.getElem_of_mem hx
 have hjk:k < j:=by
  rcases Nat.lt_trichotomy j k with g | g | g
  ·have:=List.pairwise_iff_getElem.1 h j k hj hk g;omega
  ·subst g;omega
  ·exact g
 unfold nxt
 rcases Nat.lt_or_ge (k+1) cs.length with g | g
 ·rw [List.getElem?_eq_getElem g]
  simp only [Option.getD_some]
  rcases Nat.lt_or_ge (k+1) j with g2 | g2
  ·have:=List.pairwise_iff_getElem.1 h (k+1) j g hj g2;omega
  ·have:j=k+1:=by omega
   subst this;exact Int.le_refl _
 ·omega
theorem hasR_const {rs:List Rg} {cs:List Int} (h:Ct rs cs) {k:Nat} (hk:k < cs.length) {c:Int} (h1:cs[k]≤c) (h2:c < nxt cs (k+1)) (h3:c≤1114111):hasR rs c=hasR rs cs[k]:=by
 have hb:=h.bd _ (List.getElem_mem hk)
 rw [hasR_any (by omega) h3,hasR_any hb.1 hb.2,Bool.eq_iff_iff,anyR_iff,anyR_iff]
 constructor
 ·rintro ⟨r,hr,a,b⟩
  refine ⟨r,hr,?_,by omega⟩
  apply Int.not_lt.1
  intro g
  have:=asc_none h.asc hk (h.lo r hr (by omega) (by omega)) g
  omega
 ·rintro ⟨r,hr,a,b⟩
  refine ⟨r,hr,by omega,?_⟩
  apply Int.not_lt.1
  intro g
  have:=asc_none h.asc hk (h.hi r hr (by omega) (by omega)) (by omega)
  omega
theorem nxt_bd {rs:List Rg} {cs:List Int} (h:Ct rs cs) (k:Nat):0≤nxt cs k∧nxt cs k≤1114112:=by
 unfold nxt
 rcases Nat.lt_or_ge k cs.length with g | g
 ·rw [List.getElem?_eq_getElem g]
  have:=h.bd _ (List.getElem_mem g)
  simp;omega
 ·rw [List.getElem?_eq_none g];simp
theorem bld_ok {rs:List Rg} {cs:List Int} (h:Ct rs cs) (h0:0 ∈ cs):∀k,k≤cs.length→Bd (hasR rs) (bld (hasR rs) cs k).1 (bld (hasR rs) cs k).2 (nxt cs k)
 | 0,_=>by
  have e:nxt cs 0=0:=by
   obtain ⟨j,hj,he⟩:=List.getElem_of_mem h0
   have h1:0 < cs.length:=by omega
   have hb:=h.bd _ (List.getElem_mem h1)
   unfold nxt
   rw [List.getElem?_eq_getElem h1]
   simp only [Option.getD_some]
   rcases Nat.eq_zero_or_pos j with g | g
   ·subst g;exact he
   ·have:=List.pairwise_iff_getElem.1 h.asc 0 j h1 hj g;omega
  rw [e]
  exact ⟨okR.nil,fun c a b=>by omega,fun _ hr=>(by cases hr),fun e=>(by cases e),fun _ _ hr=>(by cases hr)⟩
 | k+1,hk=>by
  have ih:=bld_ok h h0 k (by omega)
  have hn:=nxt_bd h k
  have hn':=nxt_bd h (k+1)
  have e:nxt cs k=cs[k]:=by unfold nxt;rw [List.getElem?_eq_getElem (by omega)];rfl
  have hb:=h.bd _ (List.getElem_mem (show k < cs.length by omega))
  have hlt:nxt cs k < nxt cs (k+1):=by
   rcases Nat.lt_or_ge (k+1) cs.length with g | g
   ·have:=List.pairwise_iff_getElem.1 h.asc k (k+1) (by omega) g (by omega)
    rw [e]
    unfold nxt
    rw [List.getElem?_eq_getElem g]
    exact this
   ·rw [e]
    unfold nxt
    rw [List.getElem?_eq_none g]
    simp;omega
  have:=ih.step hn.1 hlt hn'.2 (fun c c0 c1=>by rw [e] at c0 ⊢;exact hasR_const h (by omega) c0 c1 (by omega))
  exact this
theorem canR_spec (rs:List Rg):okR (canR rs)∧∀c,0≤c→c≤1114111→(anyR (canR rs) c=true ↔ anyR rs c=true):=by
 have h1:=(Ct.nil).cuts (rs:=rs)
 have h2:=h1.1.cuts (rs:=[])
 rw [List.append_nil,List.nil_append] at h2
 have hb:=bld_ok h2.1 h2.2 (cutsL (cutsL [] rs) []).length (Nat.le_refl _)
 have e:nxt (cutsL (cutsL [] rs) []) (cutsL (cutsL [] rs) []).length=1114112:=by unfold nxt;rw [List.getElem?_eq_none (Nat.le_refl _)];rfl
 rw [e] at hb
 refine ⟨hb.ok,fun c c0 c1=>?_⟩
 unfold canR
 rw [hb.any c c0 (by omega),hasR_any c0 c1]
theorem canR_unique {rs out:List Rg} (h:okR out) (ha:∀c,0≤c→c≤1114111→(anyR out c=true ↔ anyR rs c=true)):out=canR rs:=
 okR_unique h (canR_spec rs).1 (fun c c0 c1=>(ha c c0 c1).trans ((canR_spec rs).2 c c0 c1).symm)
def setOk (rs:List Rg):Bool:=decide (canR rs=rs)
end Go.Proofs.YtijgbonhjcblcaaGreatDoor
namespace Go.Proofs.YtijgbonhjcblcaaGreatDoor
open Go.RowKit
structure Nrm where
 cls:List Spn
 dec:List Mp
 exc:List Rg
def mp0:Mp:=⟨0,[],.empty⟩
def fndM (ms:List Mp) (compat:Bool) (e:Int):Option Nat:=ms.findIdx? (fun m=>decide (m.frm=e)&&(compat || decide (m.tag.size=0)))
def frmM (ms:List Mp) (i:Nat):Int:=(ms.getD i mp0).frm
def toM (ms:List Mp) (i:Nat):List Int:=(ms.getD i mp0).to
def skipM (ms:List Mp) (compat:Bool) (i:Nat):Bool:=!compat&&decide (¬(ms.getD i mp0).tag.size=0)
def dlM (e:Int):Int:=(Hg.decomp e).length
def onM (ms:List Mp) (compat:Bool) (c:Int):Option (List Int):=
 if 4≤Hg.kind c then some (Hg.decomp c) else (fndM ms compat c).map (toM ms)
def mxE:Int:=64
def capE:Int:=65
end Go.Proofs.YtijgbonhjcblcaaGreatDoor
namespace Go.Proofs.YtijgbonhjcblcaaGreatDoor
open Go.RowKit
theorem Kind_any (c:Int) (w:World):Calls Tryz.prog 93 #[.int .i64 c] w fun e w'=>e=.returned (.int .i64 (Hg.kind c))∧w=w':=by
 rcases Hg.cases6 c with ⟨h1,h2,hk⟩ | ⟨h1,h2,hk⟩ | ⟨h1,h2,hk⟩ | ⟨h1,h2,h3,hk⟩ | ⟨h1,h2,h3,hk⟩ | ⟨h1,h2,h3,h4,hk⟩ <;> rw [hk] <;> clear hk
 all_goals
  go_enter Tryz.func93,Tryz.ntmps93
  go_wp2
  all_goals (go_ret;exact ⟨rfl,rfl⟩)
theorem refKind_any (c:Int) (w:World):Calls Tryz.prog 38 #[.int .i64 c] w fun e w'=>e=.returned (.int .i64 (Hg.kind c))∧w=w':=by
 rcases Hg.cases6 c with ⟨h1,h2,hk⟩ | ⟨h1,h2,hk⟩ | ⟨h1,h2,hk⟩ | ⟨h1,h2,h3,hk⟩ | ⟨h1,h2,h3,hk⟩ | ⟨h1,h2,h3,h4,hk⟩ <;> rw [hk] <;> clear hk
 all_goals
  go_enter Tryz.func38,Tryz.ntmps38
  go_wp2
  all_goals (go_ret;exact ⟨rfl,rfl⟩)
end Go.Proofs.YtijgbonhjcblcaaGreatDoor
namespace Go.Proofs.YtijgbonhjcblcaaGreatDoor
open Go.RowKit Go.Maps Go.WideMaps
theorem info_elt:(Tryz.prog.info? 112).map (fun i=>(i.zero,i.size,i.bytes))=some (some (.agg #[.int .i64 0,.int .i64 0,.int .i64 0,.bool false]),4,32):=by kernel_rfl
theorem info_int:(Tryz.prog.info? 3).map (fun i=>(i.zero,i.size,i.bytes))=some (some (.int .i64 0),1,8):=by kernel_rfl
theorem oneCell_elts (es:List Elt):∀u ∈ flatK Elt.cells es,u.oneCell'=true:=by
 intro u hu
 obtain ⟨g,_,hg⟩:=List.mem_flatMap.1 hu
 simp only [Elt.cells,List.mem_cons,List.not_mem_nil,or_false] at hg
 rcases hg with rfl | rfl | rfl | rfl <;> rfl
def RetOwnE (es:List Elt) (w:World) (e:Ending) (w':World):Prop:=∃A c,e=.returned (.slice A es.length c)∧w'.ownsRow w.heap.size 112 4 (.slice A es.length c) es.length (flatK Elt.cells es)∧Below w.heap.size w w'
def RetOwnI (zs:List Int) (w:World) (e:Ending) (w':World):Prop:=∃A c,e=.returned (.slice A zs.length c)∧w'.ownsRow w.heap.size 3 1 (.slice A zs.length c) zs.length (zs.map (Value.int .i64))∧Below w.heap.size w w'
theorem cloneE_any (A:Option Addr) (n k:Nat) (gs:List Elt) (w:World) (hA:Elts w A gs) (hn:gs.length=n) (hb:n≤1048576) :
  Calls Tryz.prog 101 #[.slice A n k] w (RetOwnE gs w):=by
 subst hn
 cases A with
 | none=>
  have hz:gs=[]:=by
   cases gs with
   | nil=>rfl
   | cons z r=>obtain ⟨b,o,h,_⟩:=hA.at (m:=0) (by simp);cases h
  subst hz
  have hnil:=fun (W:World) n c=>Lib.run_eql_slice_nil (P:=Tryz.prog) W 72 112 none n c 0 0 Tryz.underlying72
  go_enter Tryz.func101,Tryz.ntmps101
  go_wp2
  go_ret
  exact ⟨none,0,rfl,World.ownsRow_nil _ _ _ _,Below.refl _ _⟩
 | some a=>
  have hnil:=fun (W:World) n c=>Lib.run_eql_slice_nil (P:=Tryz.prog) W 72 112 (some a) n c 0 0 Tryz.underlying72
  go_enter Tryz.func101,Tryz.ntmps101
  go_wp2_with (at_builtin;refine wpList_app _ _ 72 112 (.agg #[.int .i64 0,.int .i64 0,.int .i64 0,.bool false]) 4 32 rfl rfl Tryz.underlying72 info_elt rfl (by decide) (by decide) rfl (own_new [] 112 4 0 w.heap.size rfl rfl (Nat.le_refl _) (by omega)) rfl (Sl.alloc hA _) (flatK_len Elt.cells 4 (fun _=>rfl) gs) (oneCell_elts _) (by omega) (by simp) ?_;intro A1 c1 w1 hown1 hc1 hb1 _ _;simp only [Nat.zero_add,List.nil_append] at hown1 hc1)
  go_ret
  exact ⟨A1,c1,rfl,hown1,((Below.refl _ _).alloc (Nat.le_refl _) _).trans hb1⟩
theorem cloneI_any (A:Option Addr) (n k:Nat) (gs:List Int) (w:World) (hA:Ints w A gs) (hn:gs.length=n) (hb:n≤1048576) :
  Calls Tryz.prog 52 #[.slice A n k] w (RetOwnI gs w):=by
 subst hn
 cases A with
 | none=>
  have hz:gs=[]:=by
   cases gs with
   | nil=>rfl
   | cons z r=>obtain ⟨b,o,h,_⟩:=hA.at (k:=0) (by simp);cases h
  subst hz
  have hnil:=fun (W:World) n c=>Lib.run_eql_slice_nil (P:=Tryz.prog) W 37 3 none n c 0 0 Tryz.underlying37
  go_enter Tryz.func52,Tryz.ntmps52
  go_wp2
  go_ret
  exact ⟨none,0,rfl,World.ownsRow_nil _ _ _ _,Below.refl _ _⟩
 | some a=>
  have hnil:=fun (W:World) n c=>Lib.run_eql_slice_nil (P:=Tryz.prog) W 37 3 (some a) n c 0 0 Tryz.underlying37
  go_enter Tryz.func52,Tryz.ntmps52
  go_wp2_with (at_builtin;refine wpList_app _ _ 37 3 (.int .i64 0) 1 8 rfl rfl Tryz.underlying37 info_int rfl (by decide) (by decide) rfl (own_new [] 3 1 0 w.heap.size rfl rfl (Nat.le_refl _) (by omega)) rfl (Sl.alloc hA _) (by simp) (oneCell_ints _) (by omega) (by simp) ?_;intro A1 c1 w1 hown1 hc1 hb1 _ _;simp only [Nat.zero_add,List.nil_append] at hown1 hc1)
  go_ret
  exact ⟨A1,c1,rfl,hown1,((Below.refl _ _).alloc (Nat.le_refl _) _).trans hb1⟩
end Go.Proofs.YtijgbonhjcblcaaGreatDoor
namespace Go.Proofs.YtijgbonhjcblcaaGreatDoor
open Go.RowKit
theorem kind_is4 {c:Int} (h:Hg.kind c=4):0xAC00≤c∧c≤0xD7A3∧(c - 0xAC00) % 28=0:=by rcases Hg.cases6 c with h' | h' | h' | h' | h' | h' <;> omega
theorem kind_is5 {c:Int} (h:Hg.kind c=5):0xAC00≤c∧c≤0xD7A3∧¬(c - 0xAC00) % 28=0:=by rcases Hg.cases6 c with h' | h' | h' | h' | h' | h' <;> omega
end Go.Proofs.YtijgbonhjcblcaaGreatDoor
namespace Go.Proofs.YtijgbonhjcblcaaGreatDoor
open Go.RowKit
def RetHg (zs:List Int) (w:World) (e:Ending) (w':World):Prop:=∃A c,e=.returned (.slice A zs.length c)∧zs.length≤c∧Ints w' A zs∧Below w.heap.size w w'
theorem decomp_no {c:Int} (h:Hg.kind c < 4):Hg.decomp c=[c]:=by unfold Hg.decomp;rw [if_pos h]
theorem decomp_2 {c:Int} (h:Hg.kind c=4):Hg.decomp c=[0x1100+(c - 0xAC00) / 28 / 21,0x1161+(c - 0xAC00) / 28 % 21]:=by
 unfold Hg.decomp;rw [if_neg (by omega),if_pos (kind_is4 h).2.2]
theorem decomp_3 {c:Int} (h:Hg.kind c=5):Hg.decomp c=[0x1100+(c - 0xAC00) / 28 / 21,0x1161+(c - 0xAC00) / 28 % 21,0x11A8+(c - 0xAC00) % 28 - 1]:=by
 unfold Hg.decomp;rw [if_neg (by omega),if_neg (kind_is5 h).2.2]
def RetArr3 (x y z:Int) (w:World) (e:Ending) (w':World):Prop:=e=.returned (.agg #[.int .i64 x,.int .i64 y,.int .i64 z])∧Below w.heap.size w w'
theorem parts_no (c:Int) (w:World) (h:Hg.kind c < 4):Calls Tryz.prog 166 #[.int .i64 c] w (RetArr3 0 0 0 w):=by
 go_enter Tryz.func166,Tryz.ntmps166
 go_wp2_with (go_at_call 93;refine (Kind_any _ _).mono ?_;rintro e w' ⟨rfl,rfl⟩)
 refine bodyPost_ret (v:=.agg #[.int .i64 0,.int .i64 0,.int .i64 0]) (by simp [results,Tryz.results166,go_sem]) rfl ⟨rfl,?_⟩
 exact (Below.refl _ _).alloc (Nat.le_refl _) _
theorem parts_2 (c:Int) (w:World) (h:Hg.kind c=4):Calls Tryz.prog 166 #[.int .i64 c] w (RetArr3 (0x1100+(c - 0xAC00) / 28 / 21) (0x1161+(c - 0xAC00) / 28 % 21) 0 w):=by
 obtain ⟨b1,b2,b3⟩:=kind_is4 h
 go_enter Tryz.func166,Tryz.ntmps166
 go_wp2_with (go_at_call 93;refine (Kind_any _ _).mono ?_;rintro e w' ⟨rfl,rfl⟩)
 refine bodyPost_ret (v:=.agg #[.int .i64 (0x1100+(c - 0xAC00) / 28 / 21),.int .i64 (0x1161+(c - 0xAC00) / 28 % 21),.int .i64 0]) (by simp [results,Tryz.results166,go_sem]) rfl ⟨rfl,?_⟩
 exact ((Below.refl _ _).alloc (Nat.le_refl _) _).alloc (by simp) _
theorem parts_3 (c:Int) (w:World) (h:Hg.kind c=5):Calls Tryz.prog 166 #[.int .i64 c] w (RetArr3 (0x1100+(c - 0xAC00) / 28 / 21) (0x1161+(c - 0xAC00) / 28 % 21) (0x11A8+(c - 0xAC00) % 28 - 1) w):=by
 obtain ⟨b1,b2,b3⟩:=kind_is5 h
 have b4:0 < (c - 0xAC00) % 28:=by omega
 clear b3
 go_enter Tryz.func166,Tryz.ntmps166
 go_wp2_with (go_at_call 93;refine (Kind_any _ _).mono ?_;rintro e w' ⟨rfl,rfl⟩)
 refine bodyPost_ret (v:=.agg #[.int .i64 (0x1100+(c - 0xAC00) / 28 / 21),.int .i64 (0x1161+(c - 0xAC00) / 28 % 21),.int .i64 (0x11A8+(c - 0xAC00) % 28 - 1)]) (by simp [results,Tryz.results166,go_sem]) rfl ⟨rfl,?_⟩
 exact ((Below.refl _ _).alloc (Nat.le_refl _) _).alloc (by simp) _
theorem Decompose_any (c:Int) (w:World):Calls Tryz.prog 146 #[.int .i64 c] w (RetHg (Hg.decomp c) w):=by
 obtain ⟨i0,hi,hz0,hz1,hz2⟩:=info_parts info_int
 have q3:=fun W x y z x' y' z'=>run_equalIn_array3 (P:=Tryz.prog) W 9998 194 3 .i64 i0 Tryz.underlying194 Tryz.underlying3 hi hz1 x y z x' y' z'
 clear hi hz0 hz1 hz2
 by_cases h:Hg.kind c < 4
 ·rw [decomp_no h]
  have H:=Lib.hid (fun W=>parts_no c W h);clear h
  go_enter Tryz.func146,Tryz.ntmps146
  go_wp2_with (go_at_call 166;refine (H.out _).mono ?_;rintro e w1 ⟨rfl,hb⟩)
  go_ret
  exact ⟨_,_,rfl,Nat.le_refl _,Ints_new _ [_] _ (by simp),(hb.alloc hb.size _).alloc (by have:=hb.size;simp;omega) _⟩
 ·by_cases h4:Hg.kind c=4
  ·rw [decomp_2 h4]
   have hc:=kind_is4 h4
   have h1:(0x1100+(c - 0xAC00) / 28 / 21==0)=false:=by simp;omega
   have H:=Lib.hid (fun W=>parts_2 c W h4);clear h h4 hc
   generalize 0x1100+(c - 0xAC00) / 28 / 21=x at *
   generalize 0x1161+(c - 0xAC00) / 28 % 21=y at *
   go_enter Tryz.func146,Tryz.ntmps146
   go_wp2_with (go_at_call 166;refine (H.out _).mono ?_;rintro e w1 ⟨rfl,hb⟩)
   go_ret
   exact ⟨_,_,rfl,Nat.le_refl _,Ints_new _ [_,_] _ (by simp),(hb.alloc hb.size _).alloc (by have:=hb.size;simp;omega) _⟩
  ·have h5:Hg.kind c=5:=by have:=Hg.kind_range c;omega
   rw [decomp_3 h5]
   have hc:=kind_is5 h5
   have h1:(0x1100+(c - 0xAC00) / 28 / 21==0)=false:=by simp;omega
   have h2:(0x11A8+(c - 0xAC00) % 28 - 1==0)=false:=by simp;omega
   have H:=Lib.hid (fun W=>parts_3 c W h5);clear h h4 h5 hc
   generalize 0x1100+(c - 0xAC00) / 28 / 21=x at *
   generalize 0x1161+(c - 0xAC00) / 28 % 21=y at *
   generalize 0x11A8+(c - 0xAC00) % 28 - 1=z at *
   go_enter Tryz.func146,Tryz.ntmps146
   go_wp2_with (go_at_call 166;refine (H.out _).mono ?_;rintro e w1 ⟨rfl,hb⟩)
   go_ret
   exact ⟨_,_,rfl,Nat.le_refl _,Ints_new _ [_,_,_] _ (by simp),(hb.alloc hb.size _).alloc (by have:=hb.size;simp;omega) _⟩
theorem refDecompose_any (c:Int) (w:World):Calls Tryz.prog 86 #[.int .i64 c] w (RetHg (Hg.decomp c) w):=by
 obtain ⟨i0,hi,hz0,hz1,hz2⟩:=info_parts info_int
 by_cases h:Hg.kind c < 4
 ·rw [decomp_no h]
  go_enter Tryz.func86,Tryz.ntmps86
  go_wp2_with (go_at_call 38;refine (refKind_any _ _).mono ?_;rintro e w' ⟨rfl,rfl⟩)
  go_ret
  exact ⟨_,_,rfl,Nat.le_refl _,Ints_new _ [_] _ (by simp),(Below.refl _ _).alloc (Nat.le_refl _) _⟩
 ·by_cases h4:Hg.kind c=4
  ·rw [decomp_2 h4]
   obtain ⟨b1,b2,b3⟩:=kind_is4 h4
   have HK:=Lib.hid (fun W=>refKind_any c W);rw [h4] at HK;clear h h4
   go_enter Tryz.func86,Tryz.ntmps86
   go_wp2_with (go_at_call 38;refine (HK.out _).mono ?_;rintro e w' ⟨rfl,rfl⟩)
   go_ret
   exact ⟨_,_,rfl,Nat.le_refl _,Ints_new _ [_,_] _ (by simp),(Below.refl _ _).alloc (Nat.le_refl _) _⟩
  ·have h5:Hg.kind c=5:=by have:=Hg.kind_range c;omega
   rw [decomp_3 h5]
   obtain ⟨b1,b2,b3⟩:=kind_is5 h5
   have b4:0 < (c - 0xAC00) % 28:=by omega
   have HK:=Lib.hid (fun W=>refKind_any c W);rw [h5] at HK;clear h h4 h5 b3
   go_enter Tryz.func86,Tryz.ntmps86
   go_wp2_with (first
    | (go_at_call 38;refine (HK.out _).mono ?_;rintro e w' ⟨rfl,rfl⟩)
    | (at_builtin;refine wpList_app _ _ 37 3 (.int .i64 0) 1 8 rfl rfl Tryz.underlying37 info_int rfl (by decide) (by decide) rfl ((own_new [_,_] 3 1 2 w.heap.size rfl rfl (Nat.le_refl _) (by omega)).alloc _) rfl (Sl_new _ [_] _ (by simp)) rfl (oneCell_ints [_]) (by omega) (by simp <;> omega) ?_;intro B k w1 hown hk hb _ _))
   go_ret
   exact ⟨_,_,rfl,hk,Sl.of_own hown,(((Below.refl _ _).alloc (Nat.le_refl _) _).alloc (by simp) _).trans hb⟩
end Go.Proofs.YtijgbonhjcblcaaGreatDoor
