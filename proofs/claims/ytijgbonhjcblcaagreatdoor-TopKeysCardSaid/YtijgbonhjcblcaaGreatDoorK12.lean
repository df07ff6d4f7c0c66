/- Texts that are merged into one file: OSortB, SkRev, OptCk. -/
import Derived.Test.YtijgbonhjcblcaaGreatDoorK01
import Derived.Test.YtijgbonhjcblcaaGreatDoorK03
import Derived.Test.YtijgbonhjcblcaaGreatDoorK04
import Derived.Test.YtijgbonhjcblcaaGreatDoorK07
import Derived.Test.YtijgbonhjcblcaaGreatDoorK09
import Derived.Test.YtijgbonhjcblcaaGreatDoorK10
import Derived.Test.YtijgbonhjcblcaaGreatDoorK11
set_option maxRecDepth 100000
set_option maxHeartbeats 51200000
namespace Go.Proofs.YtijgbonhjcblcaaGreatDoor
open Go.RowKit Go.Shelf
attribute [local go_sem] Oper.semAt_some
theorem own_row {w:World} {base:Nat} {e:TypeId} {A:Option Addr} {n c:Nat} {d:List Int} (h:w.ownsRow base e 1 (.slice A n c) n (d.map (Value.int .i64))) (hn:0 < n) :
  ∃g post,A=some ⟨g,0,none⟩∧base≤g∧Row w g 0 e [] post d∧d.length=n∧n+post.length=c∧c≤maxLen:=by
 obtain ⟨h1,h2⟩:=h
 rcases h2 with ⟨hv,rfl⟩ | ⟨g,cap,cur,hv,hb,hg,hnc,hcm,hcur,htake⟩
 ·omega
 ·injection hv with hA _ hc
  subst hA;subst hc
  simp only [Nat.mul_one,List.length_map] at *
  refine ⟨g,cur.toList.drop n,rfl,hb,⟨rfl,?_⟩,h1,by simp;omega,hcm⟩
  unfold Blk
  rw [List.nil_append,←htake,List.take_append_drop]
  exact hg
theorem row_own {w:World} {base g n c:Nat} {e:TypeId} {post:List Value} {d:List Int} (h:Row w g 0 e [] post d) (hb:base≤g) (hn:d.length=n) (hc:n+post.length=c) (hcm:c≤maxLen) :
  w.ownsRow base e 1 (.slice (some ⟨g,0,none⟩) n c) n (d.map (Value.int .i64)):=by
 refine ⟨by simp [hn],.inr ⟨g,c,_,rfl,hb,h.2,by omega,hcm,by simp;omega,?_⟩⟩
 simp [←hn]
theorem Row.cut {w:World} {g:Nat} {e:TypeId} {post:List Value} {d:List Int} (h:Row w g 0 e [] post d) {lo hi:Nat} (h1:lo≤hi) (h2:hi≤d.length) :
  Row w g lo e ((d.take lo).map (Value.int .i64)) ((d.drop hi).map (Value.int .i64)++post) ((d.drop lo).take (hi - lo)):=by
 refine ⟨by simp;omega,?_⟩
 have:=h.2
 unfold Blk at this ⊢
 rw [this]
 congr 2
 have hp:=Srt.parts d lo lo hi (Nat.le_refl _) h1
 simp only [Nat.sub_self,List.take_zero,List.nil_append] at hp
 rw [List.nil_append]
 conv=>lhs;rw [hp]
 simp
theorem Row.uncut {w:World} {g lo:Nat} {e:TypeId} {post:List Value} {p s q:List Int} (h:Row w g lo e (p.map (Value.int .i64)) (q.map (Value.int .i64)++post) s):Row w g 0 e [] post (p++s++q):=by
 refine ⟨rfl,?_⟩
 have:=h.2
 unfold Blk at this ⊢
 rw [this]
 simp
theorem rns_in (cl:Int→Int) (l:List Int) (i:Nat) (s:Option Nat) (hs:∀x,s=some x→x < i):∀r ∈ rns cl l i s,r.1 < r.2∧r.2≤i+l.length:=by
 induction l generalizing i s with
 | nil=>
  cases s with
  | none=>intro r hr;cases hr
  | some s=>intro r hr;simp only [rns,List.mem_singleton] at hr;subst hr;have:=hs s rfl;simp;omega
 | cons c t ih=>
  have h1:=ih (i+1) none (fun _ h=>by cases h)
  have h2:=ih (i+1) (some i) (fun x h=>by cases h;omega)
  cases s with
  | none=>
   intro r hr
   simp only [rns] at hr
   simp only [List.length_cons]
   split at hr
   ·have:=h1 r hr;omega
   ·have:=h2 r hr;omega
  | some s=>
   have hs':=hs s rfl
   have h3:=ih (i+1) (some s) (fun x h=>by cases h;omega)
   intro r hr
   simp only [rns] at hr
   simp only [List.length_cons]
   split at hr
   ·simp only [List.mem_cons] at hr
    rcases hr with rfl | hr
    ·simp;omega
    ·have:=h1 r hr;omega
   ·have:=h3 r hr;omega
abbrev RgN (n:Nat):={ x:Nat × Nat // x.1 < x.2∧x.2≤n }
theorem rg_all {n:Nat} (l:List (Nat × Nat)) (h:∀r ∈ l,r.1 < r.2∧r.2≤n):∃all:List (RgN n),all.map (fun x=>x.1)=l:=by
 induction l with
 | nil=>exact ⟨[],rfl⟩
 | cons x l ih=>
  obtain ⟨all,ha⟩:=ih fun r hr=>h r (List.mem_cons_of_mem _ hr)
  exact ⟨⟨x,h x (List.mem_cons_self ..)⟩::all,by rw [List.map_cons,ha]⟩
theorem cell_grown {W W':World} {row:Option Nat} (hg:W.grownBy W' row) (hr:∀r,row=some r→∃o:Obj,W.heap[r]?=some o∧o.isCells=false) {p:Addr} {v:Value} (h:W.cell? p=some v):W'.cell? p=some v:=by
 have hlt:=World.block_lt_of_cell? W p h
 refine (World.cell?_of_block (w:=W) (hg.block p.block hlt fun e=>?_)).trans h
 obtain ⟨o,ho,hc⟩:=hr p.block e.symm
 unfold World.cell? at h
 rw [ho] at h
 cases o with
 | cells c t f=>cases hc
 | _=>simp at h
theorem Sl.grown {W W':World} {row:Option Nat} {A:Option Addr} {cs:List Value} (h:Sl W A cs) (hg:W.grownBy W' row) (hr:∀r,row=some r→∃o:Obj,W.heap[r]?=some o∧o.isCells=false):Sl W' A cs:=by
 intro hne
 obtain ⟨b,o,rfl,hc⟩:=h hne
 exact ⟨b,o,rfl,fun j u hu=>cell_grown hg hr (hc j u hu)⟩
structure SortI (key:Int→Int) (text:List Int) (base Bo Bl:Nat) (A:Option Addr) (n c:Nat) (A1:Option Addr) (n1 k1:Nat) (ts:List Spn) (w:World) (pre:List (Nat × Nat)) (W:World):Prop where
 box:Boxed W Bo 37 (.slice A n c)
 row:∃d,W.ownsRow base 3 1 (.slice A n c) n (d.map (Value.int .i64))∧Srt.Stp key text pre d
 l:W.cell? ⟨Bl,0,none⟩=some (.slice A1 n1 k1)
 sp:Spans W A1 ts
 bel:Below w.heap.size w W
theorem SortI.own {key:Int→Int} {text:List Int} {base Bo Bl:Nat} {A:Option Addr} {n c:Nat} {A1:Option Addr} {n1 k1:Nat} {ts:List Spn} {w:World} {β:Type} (f:β→List (Nat × Nat)) {B:Nat} (hB:w.heap.size≤B) :
  OwnFrom B (fun s W=>SortI key text base Bo Bl A n c A1 n1 k1 ts w (f s) W):=by
 intro s X Y row h hg hr
 have hr':∀r,row=some r→∃o:Obj,X.heap[r]?=some o∧o.isCells=false:=fun r e=>(hr r e).2
 refine ⟨h.box.kept hg (fun e'=>?_),?_,cell_grown hg hr' h.l,Sl.grown h.sp hg hr',?_⟩
 ·obtain ⟨o,ho,hc⟩:=hr' Bo e'.symm
  rw [show X.heap[Bo]?=_ from h.box] at ho;cases ho;cases hc
 ·obtain ⟨d,hd,hs⟩:=h.row
  refine ⟨d,hd.kept hg ?_,hs⟩
  rcases hd.2 with ⟨hv,_⟩ | ⟨g,cap,cur,hv,_,hgb,_⟩
  ·rw [hv];exact .inl rfl
  ·rw [hv]
   refine .inr fun e'=>?_
   obtain ⟨o,ho,hc⟩:=hr' g (by simpa [Value.ownBlock] using e'.symm)
   rw [hgb] at ho;cases ho;cases hc
 ·exact h.bel.grown hg h.bel.size (fun k e=>Nat.le_trans hB (hr k e).1)
theorem SortI.alloc {key:Int→Int} {text:List Int} {base Bo Bl:Nat} {A:Option Addr} {n c:Nat} {A1:Option Addr} {n1 k1:Nat} {ts:List Spn} {w W:World} {pre:List (Nat × Nat)} (h:SortI key text base Bo Bl A n c A1 n1 k1 ts w pre W) (o:Obj):SortI key text base Bo Bl A n c A1 n1 k1 ts w pre (W.alloc o):=
 OwnFrom.alloc (SortI.own (fun s:List (Nat × Nat)=>s) (B:=w.heap.size) (Nat.le_refl _)) (s:=pre) o h
end Go.Proofs.YtijgbonhjcblcaaGreatDoor
namespace Go.Proofs.YtijgbonhjcblcaaGreatDoor
open Go.RowKit
def RvK (d d':List Int) (i:Nat):Prop:=d'.length=d.length∧∀k,k < d.length→d'[k]?=if k < i∨d.length - 1 - k < i then d[d.length - 1 - k]? else d[k]?
theorem RvK.zero (d:List Int):RvK d d 0:=⟨rfl,fun k _=>by rw [if_neg (by omega)]⟩
theorem RvK.done {d d':List Int} {i:Nat} (h:RvK d d' i) (hi:d.length≤2*i+1) (_h2:2*i≤d.length):d'=d.reverse:=by
 refine List.ext_getElem? fun k=>?_
 by_cases hk:k < d.length
 ·rw [h.2 k hk,List.getElem?_reverse hk]
  split
  ·rfl
  ·congr 1;omega
 ·rw [List.getElem?_eq_none (by rw [h.1];omega),List.getElem?_eq_none (by rw [List.length_reverse];omega)]
theorem RvK.step {d d':List Int} {i j:Nat} (h:RvK d d' i) (hij:i < j) (hj:j=d.length - 1 - i) (h2:2*i≤d.length) {x y:Int} (hx:d'[i]?=some x) (hy:d'[j]?=some y):RvK d ((d'.set i y).set j x) (i+1):=by
 have hl:=h.1
 have hx':=h.2 i (by omega)
 have hy':=h.2 j (by omega)
 rw [if_neg (by omega)] at hx' hy'
 refine ⟨by simp [hl],fun k hk=>?_⟩
 rw [List.getElem?_set,List.length_set,hl]
 by_cases e1:j=k
 ·subst e1
  rw [if_pos rfl,if_pos (by omega),if_pos (by omega),←hx,hx']
  congr 1;omega
 ·rw [if_neg e1,List.getElem?_set,hl]
  by_cases e2:i=k
  ·subst e2
   rw [if_pos rfl,if_pos (by omega),if_pos (by omega),←hy,hy']
   congr 1
  ·rw [if_neg e2,h.2 k hk]
   by_cases c:k < i∨d.length - 1 - k < i
   ·rw [if_pos c,if_pos (by omega)]
   ·rw [if_neg c,if_neg (by omega)]
theorem rev_nil (A:Option Addr) (c:Nat) (w:World):Calls Tryz.prog 67 #[.slice A 0 c] w (fun e w'=>e=.returned (.tuple #[])∧w=w'):=by
 go_enter Tryz.func67,Tryz.ntmps67
 go_wp2_with fail
 go_loopw [2,3] (fun u v wr=>u=.int .i64 0∧v=.int .i64 (-1)∧wr=w) (fun u _ _=>0 - (intOf u).toNat)
 case atStart=>exact ⟨rfl,rfl,rfl⟩
 case round=>
  obtain ⟨rfl,rfl,rfl⟩:=hrel
  go_wp2_with fail
  go_end0
  exact ⟨rfl,rfl⟩
theorem rev_row (b off c:Nat) (pre post:List Value) (d:List Int) (w:World) (h:Row w b off 3 pre post d) (hpos:0 < d.length) (hbig:d.length≤1099511627776) :
  Calls Tryz.prog 67 #[.slice (some ⟨b,off,none⟩) d.length c] w (fun e w'=>e=.returned (.tuple #[])∧Row w' b off 3 pre post d.reverse∧w.grownBy w' (some b)):=by
 have HR:=Lib.hid h
 clear h
 have h0:(d.length:Int) - 1=((d.length - 1:Nat):Int):=by omega
 go_enter Tryz.func67,Tryz.ntmps67
 go_wp2_with fail
 clear h0
 go_loopw [2,3] (fun u v wr=>∃(i j:Nat) (d':List Int),2*i≤d.length∧j=d.length - 1 - i∧u=.int .i64 i∧v=.int .i64 j∧RvK d d' i∧Row wr b off 3 pre post d'∧w.grownBy wr (some b)) (fun u _ _=>d.length - (intOf u).toNat)
 case atStart=>exact ⟨0,d.length - 1,d,by omega,by omega,rfl,rfl,RvK.zero d,HR.out,grownR_refl _ _⟩
 case round=>
  obtain ⟨i,j,d',hi,hj,rfl,rfl,hk,hr,hg⟩:=hrel
  have HJ:=Lib.hid hj
  have hj1:j≤d.length - 1 - i:=by omega
  have hj2:d.length - 1 - i≤j:=by omega
  clear hj
  have HK:=Lib.hid hk
  have HRr:=Lib.hid hr
  have HL:=Lib.hid hk.1
  clear hk hr
  by_cases hij:i < j
  ·have hil:i < d'.length:=by rw [HL.out];omega
   have hjl:j < d'.length:=by rw [HL.out];omega
   have ci:=HRr.out.cell (List.getElem?_eq_getElem hil)
   have cj:=HRr.out.cell (List.getElem?_eq_getElem hjl)
   have fi:=HRr.out.frozen (off+i)
   have fj:=HRr.out.frozen (off+j)
   have HS:=Lib.hid (HK.out.step hij HJ.out hi (List.getElem?_eq_getElem hil) (List.getElem?_eq_getElem hjl))
   have HW:=Lib.hid (fun (x y:Int)=>show Row ((wr.setCell ⟨b,off+i,none⟩ (.int .i64 y)).setCell ⟨b,off+j,none⟩ (.int .i64 x)) b off 3 pre post ((d'.set i y).set j x) from (HRr.out.set hil y).set (by rw [List.length_set];exact hjl) x)
   have HW2:=Lib.hid (fun (x y:Int)=>show Row ((wr.setCell ⟨b,off+j,none⟩ (.int .i64 x)).setCell ⟨b,off+i,none⟩ (.int .i64 y)) b off 3 pre post ((d'.set i y).set j x) from by
    have e:(d'.set i y).set j x=(d'.set j x).set i y:=List.set_comm _ _ (by omega)
    rw [e]
    exact (HRr.out.set hjl x).set (by rw [List.length_set];exact hil) y)
   generalize d'[i]=x at *
   generalize d'[j]=y at *
   have hne:¬off+i=off+j:=by omega
   have hne2:¬off+j=off+i:=by omega
   clear hil hjl
   go_wp2_with fail
   go_region
   all_goals
    go_wp2_with fail
    go_roundw
    case rel=>
     first
      | exact ⟨i+1,j - 1,_,by omega,by omega,by go_num,by go_num,HS.out,(HW.out x y).drew,grownR_drew (grownR_trans (grownR_trans hg (grown_set _ _ _)) (grown_set _ _ _))⟩
      | exact ⟨i+1,j - 1,_,by omega,by omega,by go_num,by go_num,HS.out,(HW2.out x y).drew,grownR_drew (grownR_trans (grownR_trans hg (grown_set _ _ _)) (grown_set _ _ _))⟩
    case measure=>simp [intOf];omega
  ·have HD:=Lib.hid (HK.out.done (by omega) hi)
   go_wp2_with fail
   go_end0
   exact ⟨rfl,by rw [←HD.out];exact HRr.out,hg⟩
theorem rev_own (A:Option Addr) (n c base:Nat) (d:List Int) (w:World) (h:w.ownsRow base 3 1 (.slice A n c) n (d.map (Value.int .i64))) (hn:d.length=n) (hbig:n≤1099511627776) :
  Calls Tryz.prog 67 #[.slice A n c] w (fun e w'=>e=.returned (.tuple #[])∧w'.ownsRow base 3 1 (.slice A n c) n (d.reverse.map (Value.int .i64))∧w.grownBy w' (Value.ownBlock (.slice A n c))):=by
 by_cases hz:n=0
 ·subst hz
  obtain rfl:d=[]:=List.length_eq_zero_iff.1 hn
  exact (rev_nil A c w).mono (fun e w' ⟨he,hw⟩=>⟨he,by rw [←hw];exact h,by rw [←hw];exact grownR_refl _ _⟩)
 ·obtain ⟨g,post,rfl,h1,h2,h3,h4,h5⟩:=own_row h (by omega)
  subst hn
  exact (rev_row g 0 c [] post d w h2 (by omega) hbig).mono (fun e w' ⟨he,hr,hg⟩=>⟨he,row_own hr h1 (by simp) h4 h5,hg⟩)
end Go.Proofs.YtijgbonhjcblcaaGreatDoor
namespace Go.Proofs.YtijgbonhjcblcaaGreatDoor
open Go.RowKit
def optErr (o:Opt):Int:=if o.st < 1∨4 < o.st then 1 else if o.va=1∨o.va=2∨o.va=3 then 0 else 8
theorem optErr_ok (o:Opt):optErr o=0 ↔ optOk o=true:=by
 unfold optErr optOk
 simp
 split
 ·omega
 ·split <;> omega
theorem skCheck_any (o:Opt) (w:World):Calls Tryz.prog 46 #[.agg #[.int .i64 o.st,.int .i64 o.va,.bool o.bk,.bool o.idn]] w (fun e w'=>e=.returned (.int .i64 (optErr o))∧Below w.heap.size w w'):=by
 obtain ⟨st,va,bk,idn⟩:=o
 have HE:=Lib.hid (show optErr ⟨st,va,bk,idn⟩=if st < 1∨4 < st then 1 else if va=1∨va=2∨va=3 then 0 else 8 from rfl)
 generalize optErr ⟨st,va,bk,idn⟩=r at *
 have B0:Below w.heap.size w (w.alloc (.cells #[.int .i64 st,.int .i64 va,.bool bk,.bool idn] 34)):=(Below.refl _ _).alloc (Nat.le_refl _) _
 dsimp only
 go_enter Tryz.func46,Tryz.ntmps46
 by_cases h1:st < 1
 ·have d1:decide (st < 1)=true:=by simpa using h1
  obtain rfl:r=1:=by rw [HE.out,if_pos (.inl h1)]
  clear HE
  go_wp2_with fail
  go_ret
  exact ⟨rfl,B0⟩
 ·have d1:decide (st < 1)=false:=by simpa using h1
  by_cases h2:4 < st
  ·have d2:decide (4 < st)=true:=by simpa using h2
   obtain rfl:r=1:=by rw [HE.out,if_pos (.inr h2)]
   clear HE
   go_wp2_with fail
   go_ret
   exact ⟨rfl,B0⟩
  ·have d2:decide (4 < st)=false:=by simpa using h2
   have HF:=Lib.hid (show r=if va=1∨va=2∨va=3 then 0 else 8 from by rw [HE.out,if_neg (by omega)])
   clear HE
   by_cases h3:va=1
   ·have d3:(va==1)=true:=by simpa using h3
    obtain rfl:r=0:=by rw [HF.out,if_pos (.inl h3)]
    clear HF h3
    go_wp2_with fail
    go_ret
    exact ⟨rfl,B0⟩
   ·have d3:(va==1)=false:=by simpa using h3
    by_cases h4:va=2
    ·have d4:(va==2)=true:=by simpa using h4
     obtain rfl:r=0:=by rw [HF.out,if_pos (.inr (.inl h4))]
     clear HF h3 h4
     go_wp2_with fail
     go_ret
     exact ⟨rfl,B0⟩
    ·have d4:(va==2)=false:=by simpa using h4
     by_cases h5:va=3
     ·have d5:(va==3)=true:=by simpa using h5
      obtain rfl:r=0:=by rw [HF.out,if_pos (.inr (.inr h5))]
      clear HF h3 h4 h5
      go_wp2_with fail
      go_ret
      exact ⟨rfl,B0⟩
     ·have d5:(va==3)=false:=by simpa using h5
      obtain rfl:r=8:=by rw [HF.out,if_neg (by omega)]
      clear HF h3 h4 h5
      go_wp2_with fail
      go_ret
      exact ⟨rfl,B0⟩
end Go.Proofs.YtijgbonhjcblcaaGreatDoor
