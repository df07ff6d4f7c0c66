/- Texts that are merged into one file: ORuns, OCollect, SetB, StepApp, SetC, SetD, SetE, SetF. -/
import Derived.Test.YtijgbonhjcblcaaGreatDoorK01
import Derived.Test.YtijgbonhjcblcaaGreatDoorK04
import Derived.Test.YtijgbonhjcblcaaGreatDoorK05
import Derived.Test.YtijgbonhjcblcaaGreatDoorK06
import Derived.RangeFuncNested
import Derived.RangeFuncBound
import Derived.RangeFuncCalls
import Derived.RangeFuncLeaves
import Derived.Shelf.Abstract
import Derived.Shelf.RegionOpen
import Derived.WalkKit
import Derived.OwnWalkIn
import Derived.TacticsInMore
import Derived.LoopNIn
import Derived.LoopIn
import Derived.RangeFuncBox
import Derived.Maps.AppendAt
import Derived.Maps.OwnIn
import Derived.Deep.AppendLies
import Derived.Deep.RegionLaw
import Derived.Laws.OwnMore
import Derived.Laws.StructEq
set_option maxRecDepth 100000
set_option maxHeartbeats 51200000
namespace Go.Proofs.YtijgbonhjcblcaaGreatDoor
open Go.RowKit Go.Shelf
attribute [local go_sem] Oper.semAt_some
def KeepX (n₀ bo:Nat) (W W':World):Prop:=W.heap.size≤W'.heap.size∧∀k,k < n₀→k≠bo→W'.heap[k]?=W.heap[k]?
theorem KeepX.refl (n₀ bo:Nat) (W:World):KeepX n₀ bo W W:=⟨Nat.le_refl _,fun _ _ _=>rfl⟩
theorem KeepX.trans {n₀ bo:Nat} {A B C:World} (h:KeepX n₀ bo A B) (g:KeepX n₀ bo B C):KeepX n₀ bo A C:=⟨Nat.le_trans h.1 g.1,fun k hk hne=>(g.2 k hk hne).trans (h.2 k hk hne)⟩
theorem KeepX.cell {n₀ bo:Nat} {W W':World} (h:KeepX n₀ bo W W') {p:Addr} (h1:p.block < n₀) (h2:p.block≠bo):W'.cell? p=W.cell? p:=World.cell?_of_block (w:=W) (h.2 p.block h1 h2)
def Within (n₀ bo:Nat) (A:Option Addr):Prop:=∀b o,A=some ⟨b,o,none⟩→b < n₀∧b≠bo
theorem Sl.keepX {n₀ bo:Nat} {W W':World} {A:Option Addr} {cs:List Value} (h:Sl W A cs) (hk:KeepX n₀ bo W W') (hw:cs≠[]→Within n₀ bo A):Sl W' A cs:=by
 intro hne
 obtain ⟨b,o,rfl,hc⟩:=h hne
 obtain ⟨h1,h2⟩:=hw hne b o rfl
 exact ⟨b,o,rfl,fun j u hu=>(hk.cell (p:=⟨b,o+j,none⟩) h1 h2).trans (hc j u hu)⟩
structure Mem (Bt Bs:Nat) (A:Option Addr) (nt kt:Nat) (text:List Int) (A':Option Addr) (ns ks:Nat) (ss:List Spn) (W:World):Prop where
 bt:W.cell? ⟨Bt,0,none⟩=some (.slice A nt kt)
 bs:W.cell? ⟨Bs,0,none⟩=some (.slice A' ns ks)
 tx:Ints W A text
 sp:Spans W A' ss
theorem Mem.below {Bt Bs:Nat} {A:Option Addr} {nt kt:Nat} {text:List Int} {A':Option Addr} {ns ks:Nat} {ss:List Spn} {W W':World} (h:Mem Bt Bs A nt kt text A' ns ks ss W) (hb:Below W.heap.size W W'):Mem Bt Bs A nt kt text A' ns ks ss W':=
 ⟨(hb.cell (World.block_lt_of_cell? W _ h.bt)).trans h.bt,(hb.cell (World.block_lt_of_cell? W _ h.bs)).trans h.bs,h.tx.below hb,h.sp.below hb⟩
theorem Mem.keepX {n₀ bo Bt Bs:Nat} {A:Option Addr} {nt kt:Nat} {text:List Int} {A':Option Addr} {ns ks:Nat} {ss:List Spn} {W W':World} (h:Mem Bt Bs A nt kt text A' ns ks ss W) (hk:KeepX n₀ bo W W')
  (h1:Bt < n₀∧Bt≠bo) (h2:Bs < n₀∧Bs≠bo) (h3:text≠[]→Within n₀ bo A) (h4:ss≠[]→Within n₀ bo A'):Mem Bt Bs A nt kt text A' ns ks ss W':=
 ⟨(hk.cell (p:=⟨Bt,0,none⟩) h1.1 h1.2).trans h.bt,(hk.cell (p:=⟨Bs,0,none⟩) h2.1 h2.2).trans h.bs,Sl.keepX h.tx hk (fun hne=>h3 (by rintro rfl;exact hne rfl)),Sl.keepX h.sp hk (fun hne=>h4 (by rintro rfl;exact hne rfl))⟩
def encR (x:Nat × Nat):Array Value:=#[.agg #[.int .i64 (x.1:Int),.int .i64 (x.2:Int)]]
theorem J_below {α:Type} {J:List α→World→Prop} {B:Nat} (h:AbidesFrom B J) {pre:List α} {W W':World} (hJ:J pre W) (hb:Below W.heap.size W W'):J pre W':=
 h pre W W' none hJ ⟨hb.os,hb.tape,hb.output,hb.size,fun k hk _=>hb.block k hk⟩ (fun r e=>by cases e)
def RunsPost {α:Type} (all:List α) (J Jx:List α→World→Prop) (e:Ending) (W':World):Prop:=(∃v,e=.returned v)∧((∃ys,ys=all∧J ys W')∨(∃pre,pre <+: all∧Jx pre W'))
theorem runs1_in {α:Type} (f:α→Nat × Nat) (n:Nat) (hn1:1≤n) (l n₀ bo Bt Bs:Nat) (A:Option Addr) (nt kt:Nat) (text:List Int) (A':Option Addr) (ns ks:Nat) (ss:List Spn) (all:List α)
  (hall:all.map f=rns (cls ss) text 0 none) (hnt:text.length=nt) (hns:ss.length=ns) (hb1:nt≤1099511627776) (hb2:ns≤1099511627776) (hasc:Asc ss)
  (h1:Bt < n₀∧Bt≠bo) (h2:Bs < n₀∧Bs≠bo) (h3:text≠[]→Within n₀ bo A) (h4:ss≠[]→Within n₀ bo A')
  (J Jx:List α→World→Prop) (B:Nat) (hJ:AbidesFrom B J)
  (hY:∀pre x W,J pre W→pre.length < all.length→YieldAt Fence.wide (n - 1) Tryz.prog l (encR (f x)) W fun e W'=>
   (e=.returned (.bool true)∧J (pre++[x]) W'∧KeepX n₀ bo W W')∨(e=.returned (.bool false)∧Jx (pre++[x]) W'))
  (W:World) (hM:Mem Bt Bs A nt kt text A' ns ks ss W) (h0:J [] W) :
  CallsIn Fence.wide n Tryz.prog 149 #[.func (.yield l) #[] #[],.pointer (some ⟨Bt,0,none⟩),.pointer (some ⟨Bs,0,none⟩)] W (RunsPost all J Jx):=by
 subst hnt hns
 have HALL:=Lib.hid hall;have HA:=Lib.hid hasc;have HY:=Lib.hid hY;have HJ:=Lib.hid hJ
 have H3:=Lib.hid h3;have H4:=Lib.hid h4
 clear hall hasc hY hJ h3 h4
 have cbt:=hM.bt;have cbs:=hM.bs
 refine callsIn_of_wp Tryz.func149 rfl trivial ?_ rfl
 simp only [Tryz.ntmps149,List.size_toArray,List.length_cons,List.length_nil,Nat.reduceAdd,Nat.reduceSub,Array.replicate_succ,Array.replicate_zero,List.push_toArray,List.append_toArray,List.nil_append,List.cons_append]
 gi_wp2
 gi_loopw [4,10] (fun u i wr=>∃(k:Nat) (s:Option Nat) (pre rest:List α),k≤text.length∧i=.int .i64 k∧u=.int .i64 (stv s)∧(pre++rest=all∧rest.map f=rns (cls ss) (text.drop k) k s)∧(∀x,s=some x→x≤k)∧J pre wr∧Mem Bt Bs A text.length kt text A' ss.length ks ss wr)
  (fun _ i _=>text.length - (intOf i).toNat)
 case atStart=>exact ⟨0,none,[],all,Nat.zero_le _,rfl,rfl,⟨rfl,HALL.out⟩,(fun _ h=>by cases h),h0,hM⟩
 case round=>
  obtain ⟨k,s,pre,rest,hk,rfl,rfl,⟨hpre,hrest⟩,hs,hJ1,hM1⟩:=hrel
  have HP:=Lib.hid hpre;have HT:=Lib.hid hrest;clear hrest;have HS:=Lib.hid hs;clear hpre hs
  by_cases hlt:k < text.length
  ·obtain ⟨b,o,rfl,hcell⟩:=hM1.tx.at hlt
   have c1:=hcell k hlt
   have c2:=hM1.bs
   clear hcell
   have HR:=Lib.hid (rns_step (cls ss) text k hlt s)
   generalize text[k]=c at *
   gi_wp2_with fail
   refine ⟨trivial,(callsIn_wide.2 (class_any A' ss.length ks ss c wr hM1.sp rfl hb2 HA.out)).mono ?_⟩
   rintro e w1 ⟨rfl,hbw⟩
   have hM2:=hM1.below hbw
   have hJ2:=J_below HJ.out hJ1 hbw
   clear hM1 hJ1 hbw c1 c2
   by_cases hz:cls ss c=0
   ·have hzb:(cls ss c==0)=true:=by simpa using hz
    cases s with
    | none=>
     have HR':=Lib.hid (HR.out.trans (show _=_ from if_pos hz))
     clear HR hz
     generalize cls ss c=z at *
     simp only [stv]
     gi_wp2
     go_roundw
     case rel=>exact ⟨k+1,none,pre,rest,by omega,by go_num,rfl,⟨HP.out,HT.out.trans HR'.out⟩,(fun _ h=>by cases h),hJ2,hM2⟩
     case measure=>simp [intOf];omega
    | some s=>
     have HR':=Lib.hid (HR.out.trans (show _=_ from if_pos hz))
     clear HR hz
     generalize cls ss c=z at *
     simp only [stv]
     obtain ⟨x,rest',hx,hfx,hrest'⟩:∃x rest',rest=x::rest'∧f x=(s,k)∧rest'.map f=rns (cls ss) (text.drop (k+1)) (k+1) none:=by
      have:=HT.out.trans HR'.out
      cases rest with
      | nil=>cases this
      | cons x r=>simp only [List.map_cons,List.cons.injEq] at this;exact ⟨x,r,rfl,this.1,this.2⟩
     have HPX:=Lib.hid (show (pre++[x])++rest'=all by rw [←HP.out,hx];simp)
     have HTX:=Lib.hid hrest'
     have hlen:pre.length < all.length:=by rw [←HP.out,hx];simp
     have hy0:=HY.out pre x w1 hJ2 hlen
     rw [hfx] at hy0
     clear hx hfx hrest'
     unfold encR at hy0
     obtain ⟨fn,tmps,assign,body,hy,hR⟩:=hy0
     dsimp only at hy
     have HRR:=Lib.hid hR
     clear hR hlen
     gi_wp2
     refine HRR.out.mono ?_
     rintro e W3 (⟨rfl,hJ3,hk3⟩ | ⟨rfl,hJx3⟩)
     ·have hM3:=hM2.keepX hk3 h1 h2 H3.out H4.out
      clear hM2 hJ2 hy HRR
      gi_wp2
      go_roundw
      case rel=>exact ⟨k+1,none,pre++[x],rest',by omega,by go_num,rfl,⟨HPX.out,HTX.out⟩,(fun _ h=>by cases h),hJ3,hM3⟩
      case measure=>simp [intOf];omega
     ·gi_wp2
      refine bodyPost_ret (results_none rfl _ _ _) rfl ?_
      exact ⟨⟨_,rfl⟩,.inr ⟨pre++[x],⟨rest',HPX.out⟩,hJx3⟩⟩
   ·have hzb:(cls ss c==0)=false:=by simpa using hz
    cases s with
    | none=>
     have HR':=Lib.hid (HR.out.trans (show _=_ from if_neg hz))
     clear HR hz
     generalize cls ss c=z at *
     simp only [stv]
     gi_wp2
     go_roundw
     case rel=>exact ⟨k+1,some k,pre,rest,by omega,by go_num,rfl,⟨HP.out,HT.out.trans HR'.out⟩,(fun x h=>by cases h;omega),hJ2,hM2⟩
     case measure=>simp [intOf];omega
    | some s=>
     have HR':=Lib.hid (HR.out.trans (show _=_ from if_neg hz))
     clear HR hz
     generalize cls ss c=z at *
     simp only [stv]
     gi_wp2
     go_roundw
     case rel=>exact ⟨k+1,some s,pre,rest,by omega,by go_num,rfl,⟨HP.out,HT.out.trans HR'.out⟩,(fun x h=>by have:=HS.out x h;omega),hJ2,hM2⟩
     case measure=>simp [intOf];omega
  ·have HE:=Lib.hid (rns_end (cls ss) text k (by omega) s)
   have cb:=hM1.bt
   cases s with
   | none=>
    simp only [stv]
    gi_wp2
    go_end0
    have hr0:rest=[]:=by have:=HT.out.trans HE.out;simpa using this
    exact ⟨⟨_,rfl⟩,.inl ⟨pre,by rw [←HP.out,hr0];simp,hJ1⟩⟩
   | some s=>
    obtain rfl:k=text.length:=by omega
    simp only [stv]
    obtain ⟨x,hx,hfx⟩:∃x,rest=[x]∧f x=(s,text.length):=by
     have:=HT.out.trans HE.out
     cases rest with
     | nil=>cases this
     | cons x r=>simp only [List.map_cons,List.cons.injEq,List.map_eq_nil_iff] at this;exact ⟨x,by rw [this.2],this.1⟩
    have HPX:=Lib.hid (show pre++[x]=all by rw [←HP.out,hx])
    have hlen:pre.length < all.length:=by rw [←HPX.out];simp
    have hy0:=HY.out pre x wr hJ1 hlen
    rw [hfx] at hy0
    clear hx hfx
    unfold encR at hy0
    obtain ⟨fn,tmps,assign,body,hy,hR⟩:=hy0
    dsimp only at hy
    have HRR:=Lib.hid hR
    clear hR hlen
    gi_wp2
    refine HRR.out.mono ?_
    rintro e W3 (⟨rfl,hJ3,hk3⟩ | ⟨rfl,hJx3⟩)
    ·gi_wp2
     go_end0
     exact ⟨⟨_,rfl⟩,.inl ⟨pre++[x],HPX.out,hJ3⟩⟩
    ·gi_wp2
     go_end0
     exact ⟨⟨_,rfl⟩,.inr ⟨pre++[x],⟨[],by rw [List.append_nil];exact HPX.out⟩,hJx3⟩⟩
theorem runs_stops {α:Type} (f:α→Nat × Nat) (n:Nat) (hn1:1≤n) (n₀ bo Bt Bs:Nat) (A:Option Addr) (nt kt:Nat) (text:List Int) (A':Option Addr) (ns ks:Nat) (ss:List Spn) (all:List α) (w:World)
  (hall:all.map f=rns (cls ss) text 0 none) (hnt:text.length=nt) (hns:ss.length=ns) (hb1:nt≤1099511627776) (hb2:ns≤1099511627776) (hasc:Asc ss)
  (h1:Bt < n₀∧Bt≠bo) (h2:Bs < n₀∧Bs≠bo) (h3:text≠[]→Within n₀ bo A) (h4:ss≠[]→Within n₀ bo A') (hM:Mem Bt Bs A nt kt text A' ns ks ss w) :
  SeqStopsK Fence.wide n Tryz.prog 149 #[.pointer (some ⟨Bt,0,none⟩),.pointer (some ⟨Bs,0,none⟩)] (fun x=>encR (f x)) (KeepX n₀ bo) (fun ys=>ys=all) (fun pre=>pre <+: all) all.length w:=
 fun l J Jx W hW hJ _ hY h0=>runs1_in f n hn1 l n₀ bo Bt Bs A nt kt text A' ns ks ss all hall hnt hns hb1 hb2 hasc h1 h2 h3 h4 J Jx _ hJ hY W (hM.below hW) h0
theorem runs_any (A:Option Addr) (nt kt:Nat) (A':Option Addr) (ns ks:Nat) (w:World) :
  Calls Tryz.prog 120 #[.slice A' ns ks,.slice A nt kt] w fun e w'=>
   e=.returned (.func (.func 149) #[] #[.pointer (some ⟨w.heap.size+1,0,none⟩),.pointer (some ⟨w.heap.size,0,none⟩)])∧
   (w.alloc (.cells #[.slice A' ns ks] 22)).alloc (.cells #[.slice A nt kt] 37)=w':=by
 go_enter Tryz.func120,Tryz.ntmps120
 go_wp2
 go_ret
 exact ⟨rfl,rfl⟩
end Go.Proofs.YtijgbonhjcblcaaGreatDoor
namespace Go.Proofs.YtijgbonhjcblcaaGreatDoor
open Go.RowKit Go.Shelf
attribute [local go_sem] Oper.semAt_some
def flat2 (rs:List (Nat × Nat)):List Value:=rs.flatMap fun r=>[.int .i64 (r.1:Int),.int .i64 (r.2:Int)]
theorem flat2_snoc (rs:List (Nat × Nat)) (x:Nat × Nat):flat2 (rs++[x])=flat2 rs++[.int .i64 (x.1:Int),.int .i64 (x.2:Int)]:=by simp [flat2]
def RetRanges (rs:List (Nat × Nat)) (w:World) (e:Ending) (w':World):Prop:=∃A c,e=.returned (.slice A rs.length c)∧rs.length≤c∧Sl w' A (flat2 rs)∧Below w.heap.size w w'
theorem info_range:(Tryz.prog.info? 131).map (fun i=>(i.zero,i.size,i.bytes))=some (some (.agg #[.int .i64 0,.int .i64 0]),2,16):=by kernel_rfl
theorem keepX_of_below {n₀ bo:Nat} {W W':World} (h:Below n₀ W W'):KeepX n₀ bo W W':=⟨h.size,fun k hk _=>h.block k hk⟩
theorem Mem.lt_bt {Bt Bs:Nat} {A:Option Addr} {nt kt:Nat} {text:List Int} {A':Option Addr} {ns ks:Nat} {ss:List Spn} {W:World} (h:Mem Bt Bs A nt kt text A' ns ks ss W):Bt < W.heap.size:=World.block_lt_of_cell? W _ h.bt
theorem Mem.lt_bs {Bt Bs:Nat} {A:Option Addr} {nt kt:Nat} {text:List Int} {A':Option Addr} {ns ks:Nat} {ss:List Spn} {W:World} (h:Mem Bt Bs A nt kt text A' ns ks ss W):Bs < W.heap.size:=World.block_lt_of_cell? W _ h.bs
theorem Sl.lt {W:World} {A:Option Addr} {cs:List Value} (h:Sl W A cs) (hne:cs≠[]) (bo:Nat) (hbo:W.heap.size≤bo):Within W.heap.size bo A:=by
 intro b o hA
 obtain ⟨b',o',hA',hc⟩:=h hne
 rw [hA] at hA'
 injection hA' with hA'
 injection hA' with h1 h2
 subst h1;subst h2
 obtain ⟨x,r,rfl⟩:∃x r,cs=x::r:=by cases cs with | nil=>exact absurd rfl hne | cons x r=>exact ⟨x,r,rfl⟩
 have:=World.block_lt_of_cell? W _ (hc 0 x rfl)
 simp at this
 exact ⟨this,by omega⟩
theorem AppendSeq_any (Bt Bs:Nat) (A:Option Addr) (nt kt:Nat) (text:List Int) (A':Option Addr) (ns ks:Nat) (ss:List Spn) (all:List (Nat × Nat)) (w:World)
  (hall:rns (cls ss) text 0 none=all) (hnt:text.length=nt) (hns:ss.length=ns) (hb1:nt≤1048576) (hb2:ns≤1099511627776) (hasc:Asc ss) (hM:Mem Bt Bs A nt kt text A' ns ks ss w) :
  Calls Tryz.prog 161 #[.slice none 0 0,.func (.func 149) #[] #[.pointer (some ⟨Bt,0,none⟩),.pointer (some ⟨Bs,0,none⟩)]] w (RetRanges all w):=by
 have hlen:all.length≤1048576:=by rw [←hall];have:=rns_len0 (cls ss) text 0;omega
 obtain ⟨i0,hi0,hz0,hz1,hz2⟩:=info_parts info_range
 refine (callsIn_wide (n:=6)).1 ?_
 refine callsIn_of_wp_marks Tryz.func161 rfl trivial ?_ rfl
 simp only [Tryz.ntmps161,List.size_toArray,List.length_cons,List.length_nil,Nat.reduceAdd,Nat.reduceSub,Array.replicate_succ,Array.replicate_zero,List.push_toArray,List.append_toArray,List.nil_append,List.cons_append]
 gi_wp2
 have bS:=Boxed.new w 24 (.slice none 0 0)
 have hB0:Below w.heap.size w (w.alloc (.cells #[.slice none 0 0] 24)):=(Below.refl _ w).alloc (Nat.le_refl _) _
 have hsz:(w.alloc (.cells #[.slice none 0 0] 24)).heap.size=w.heap.size+1:=by simp
 have hM0:=hM.below hB0
 obtain ⟨W0,hW0⟩:∃W0,w.alloc (.cells #[.slice none 0 0] 24)=W0:=⟨_,rfl⟩
 rw [hW0] at bS hB0 hsz hM0 ⊢
 clear hW0
 refine wpIn_rangeFunc_ownH rfl (by omega) (gf:=149) (lb:=#[.pointer (some ⟨Bt,0,none⟩),.pointer (some ⟨Bs,0,none⟩)]) rfl trivial (enters_of Tryz.func149 (by kernel_rfl) rfl)
  (runs_stops (fun x=>x) 5 (by omega) w.heap.size w.heap.size Bt Bs A nt kt text A' ns ks ss all W0 (by rw [hall];simp) hnt hns (by omega) hb2 hasc ⟨hM.lt_bt,by have:=hM.lt_bt;omega⟩ ⟨hM.lt_bs,by have:=hM.lt_bs;omega⟩
   (fun hne=>Sl.lt hM.tx (by simpa using hne) _ (Nat.le_refl _)) (fun hne=>Sl.lt hM.sp (by cases ss with | nil=>exact absurd rfl hne | cons s r=>simp [flat3]) _ (Nat.le_refl _)) hM0)
  (fun h k=>h.trans k) (fun W l o o' hl h hc hw=>keepX_of_below (belowK_b (w:=W0) (by omega) W l o o' hl h hc hw)) (Below.refl _ _) (fun _=>rfl)
  (fun pre W=>(∃v,Boxed W w.heap.size 24 v∧W.ownsRow w.heap.size 131 2 v pre.length (flat2 pre)∧True)∧Below w.heap.size w W)
  (fun _ _ _=>False)
  (OwnFrom.and (Own.from (holdsRow_own w.heap.size w.heap.size 24 131 2 (fun pre:List (Nat × Nat)=>pre.length) flat2 (fun _ _=>True)) _) (ownFrom_below (Nat.le_refl _) (by omega)))
  (fun _ _ _ _ _ hs _ _=>hs)
  ⟨⟨_,bS,World.ownsRow_nil _ _ _ _,trivial⟩,hB0⟩
  (fun x a' W=>∃Bx,w.heap.size < Bx∧W.heap[Bx]?=some (.cells #[.int .i64 (x.1:Int),.int .i64 (x.2:Int)] 131 (0,0))∧a'={ tmps:=#[.slice none 0 0,.func (.func 149) #[] #[.pointer (some ⟨Bt,0,none⟩),.pointer (some ⟨Bs,0,none⟩)],.pointer (some ⟨w.heap.size,0,none⟩),undef,.slice none 0 0,.pointer (some ⟨Bx,0,none⟩),.func (.func 149) #[] #[.pointer (some ⟨Bt,0,none⟩),.pointer (some ⟨Bs,0,none⟩)],.agg #[.int .i64 (x.1:Int),.int .i64 (x.2:Int)],undef,undef,undef,undef,undef],defers:=[] })
  (fun x a' _ X Y row hs hg hr=>by
   obtain ⟨Bx,h1,h2,h3⟩:=hs
   refine ⟨Bx,h1,(hg.block Bx (Array.getElem?_eq_some_iff.1 h2).1 (fun e=>?_)).trans h2,h3⟩
   obtain ⟨_,o,ho,hc⟩:=hr Bx e.symm
   rw [h2] at ho;cases ho;cases hc)
  ?assign ?body ?done ?stop
 case assign=>
  rintro l pre x W K ⟨⟨v,bS1,hr1,_⟩,hB1⟩ hK
  unfold encR at *
  gi_wp2
  exact hK _ _ ((KeepsOthers.alloc _ _).from _) (keepX_of_below ((Below.refl _ W).alloc hB1.size _)) ⟨⟨v,bS1.alloc _,hr1.alloc _,trivial⟩,hB1.alloc hB1.size _⟩ ⟨W.heap.size,bS1.lt,heap_alloc_new W _,rfl⟩
 case body=>
  rintro l pre x a' W hl ⟨r,hr⟩ ⟨⟨v,bS1,hr1,_⟩,hB1⟩ ⟨Bx,hBx,bX,rfl⟩ hlt
  obtain ⟨Av,cv,rfl,hcv⟩:=own_form hr1
  have cS:=bS1.cell
  have fS:=bS1.frozen
  have x0:W.cell? ⟨Bx,0,none⟩=some (.int .i64 (x.1:Int)):=by rw [cell_of_row W Bx 0 _ _ (0,0) bX];rfl
  have x1:W.cell? ⟨Bx,1,none⟩=some (.int .i64 (x.2:Int)):=by rw [cell_of_row W Bx 1 _ _ (0,0) bX];rfl
  have hltS:=bS1.lt
  gi_wp2_with (gi_at_builtin;refine wpListIn_append_own _ rfl _ _ 24 rfl w.heap.size 131 i0 (.agg #[.int .i64 0,.int .i64 0]) 2 16 Tryz.underlying24 hi0 hz0 hz1 hz2 rfl (by decide) _ _ _ rfl (hr1.alloc _) ⟨W.heap.size,0,none⟩ 1 1 [.int .i64 (x.1:Int),.int .i64 (x.2:Int)] rfl rfl ?c1 (oneCell_ints [_,_]) (by unfold maxLen;omega) (by omega) (by have:=hB1.size;simp;omega) ?_)
  case c1=>
   intro j u hu
   match j,hu with
   | 0,hu=>simp at hu;subst hu;simp [Addr.add]
   | 1,hu=>simp at hu;subst hu;simp [Addr.add]
  ·intro v' w1 hown' hgrow _
   obtain ⟨Av',cv',rfl,hcv'⟩:=own_form hown'
   obtain ⟨hv1,hv2,hr2,hk2,hb2⟩:=bS1.appended (by decide) hr1 hB1.size (Nat.le_refl _) hown' hgrow
   have hc1:=hv1.cell
   have hf1:=hv1.frozen
   clear hown' hgrow cS fS x0 x1 hr1 bX bS1
   gi_wp2
   refine ⟨hk2.from _,keepX_of_below hb2,⟨_,hv2,?_,trivial⟩,hB1.trans hb2⟩
   rw [flat2_snoc,List.length_append]
   exact hr2
 case done=>
  rintro D ys W hD rfl ⟨⟨v,bS1,hr1,_⟩,hB1⟩ hK
  obtain ⟨Av,cv,rfl,hcv⟩:=own_form hr1
  have cS:=bS1.cell
  have HRow:=Lib.hid (ownsRow_putObj hr1 (.deferred none) hK rfl)
  have HBel:=Lib.hid (hB1.trans (belowK_b (w:=w) (Nat.le_refl _) W D _ (.deferred none) (by omega) hK rfl rfl))
  gi_wp2
  refine ⟨by simp,.inl ⟨_,_,rfl,run_takeDeferred hK,?_⟩⟩
  exact ⟨_,results_tmp rfl _ _ _,Av,cv,rfl,hcv,Sl.of_own HRow.out,HBel.out⟩
 case stop=>
  rintro D c pre W _ _ h _
  exact h.elim
theorem Collect_any (Bt Bs:Nat) (A:Option Addr) (nt kt:Nat) (text:List Int) (A':Option Addr) (ns ks:Nat) (ss:List Spn) (all:List (Nat × Nat)) (w:World)
  (hall:rns (cls ss) text 0 none=all) (hnt:text.length=nt) (hns:ss.length=ns) (hb1:nt≤1048576) (hb2:ns≤1099511627776) (hasc:Asc ss) (hM:Mem Bt Bs A nt kt text A' ns ks ss w) :
  Calls Tryz.prog 136 #[.func (.func 149) #[] #[.pointer (some ⟨Bt,0,none⟩),.pointer (some ⟨Bs,0,none⟩)]] w (RetRanges all w):=by
 have C:=Lib.hid (AppendSeq_any Bt Bs A nt kt text A' ns ks ss all w hall hnt hns hb1 hb2 hasc hM)
 clear hall hnt hns hasc hM
 go_enter Tryz.func136,Tryz.ntmps136
 go_wp2_with fail
 refine C.out.mono ?_
 rintro e w1 ⟨A1,c1,rfl,hc1,hA1,hb1⟩
 go_wp2_with fail
 go_ret
 exact ⟨A1,c1,rfl,hc1,hA1,hb1⟩
theorem Runs_any (A':Option Addr) (ns ks:Nat) (ss:List Spn) (A:Option Addr) (nt kt:Nat) (text:List Int) (w:World) (hS:Spans w A' ss) (hT:Ints w A text)
  (hnt:text.length=nt) (hns:ss.length=ns) (hb1:nt≤1048576) (hb2:ns≤1099511627776) (hL:Laid w) :
  Calls Tryz.prog 94 #[.slice A' ns ks,.slice A nt kt] w (RetRanges (rns (clz ss) text 0 none) w):=by
 have hle:=us_len ss
 rw [hns] at hle
 have U:=Lib.hid (usable_any A' ns ks ss w hS hns hb2 hL)
 have hasc:=Lib.hid (us_asc ss)
 have hcl:clz ss=cls (us ss):=rfl
 rw [hcl]
 clear hS hL hns hcl
 generalize us ss=ts at *
 go_enter Tryz.func94,Tryz.ntmps94
 go_wp2_with fail
 refine U.out.mono ?_
 rintro e w1 ⟨A1,k1,rfl,hA1,hb3⟩
 have hT1:=hT.below hb3
 clear hT U
 go_wp2_with fail
 refine (runs_any A nt kt A1 ts.length k1 w1).mono ?_
 rintro e w2 ⟨rfl,hw2⟩
 have hM:Mem (w1.heap.size+1) w1.heap.size A nt kt text A1 ts.length k1 ts w2:=by
  rw [←hw2]
  exact ⟨by simp,by simp,Sl.alloc (Sl.alloc hT1 _) _,Sl.alloc (Sl.alloc hA1 _) _⟩
 have hb4:Below w.heap.size w w2:=by
  rw [←hw2]
  exact (hb3.alloc hb3.size _).alloc (by have:=hb3.size;simp;omega) _
 have HM:=Lib.hid hM
 clear hw2 hM hT1 hA1 hb3
 go_wp2_with fail
 refine (Collect_any (w1.heap.size+1) w1.heap.size A nt kt text A1 ts.length k1 ts _ w2 rfl hnt rfl hb1 (by omega) hasc.out HM.out).mono ?_
 rintro e w3 ⟨A3,c3,rfl,hc3,hA3,hb5⟩
 go_wp2_with fail
 go_ret
 exact ⟨A3,c3,rfl,hc3,hA3,hb4.trans (hb5.mono hb4.size)⟩
end Go.Proofs.YtijgbonhjcblcaaGreatDoor
namespace Go.Proofs.YtijgbonhjcblcaaGreatDoor
open Go.RowKit Go.Maps Go.WideMaps
theorem refSmallS_any (A:Option Addr) (n a:Nat) (w:World) (hb:n≤9223372036854775807) :
  Calls Tryz.prog 60 #[.agg #[.slice A n a]] w (RetBool (decide (n≤12)) w):=by
 go_enter Tryz.func60,Tryz.ntmps60
 go_wp2_with fail
 go_ret
 exact ⟨ret_bool (by rw [Bool.eq_iff_iff];simp;try omega),(Below.refl _ _).alloc (Nat.le_refl _) _⟩
def anyGe (l:List Int) (n:Int):Bool:=l.any (fun x=>decide (n≤x))
def plk (l:List Int) (n:Int) (k:Nat):List Int:=if anyGe (l.take k) n=true then placeL (l.take k) n else l.take k
section
variable {l:List Int} {n:Int} {k:Nat}
theorem plk_len:(plk l n k).length≤k+1:=by
 have:∀(s:List Int),(placeL s n).length≤s.length+1:=by
  intro s
  induction s with
  | nil=>simp [placeL]
  | cons y r ih=>
   simp only [placeL]
   split
   ·split <;> simp
   ·simp only [List.length_cons];omega
 unfold plk
 split
 ·have h:=this (l.take k)
  have:=List.length_take_le k l
  omega
 ·have:=List.length_take_le k l
  omega
end
theorem placeL_len (l:List Int) (n:Int):(placeL l n).length≤l.length+1:=by
 induction l with
 | nil=>simp [placeL]
 | cons y r ih=>
  simp only [placeL]
  split
  ·split <;> simp
  ·simp only [List.length_cons];omega
end Go.Proofs.YtijgbonhjcblcaaGreatDoor
namespace Go.Proofs.YtijgbonhjcblcaaGreatDoor
open Go.RowKit
variable {P:Program} {w:World}
end Go.Proofs.YtijgbonhjcblcaaGreatDoor
namespace Go.Proofs.YtijgbonhjcblcaaGreatDoor
open Go.RowKit Go.Maps Go.WideMaps
def RetIs (l:List Int) (w:World) (e:Ending) (w':World):Prop:=∃E d,e=.returned (.slice E l.length d)∧l.length≤d∧Ints w' E l∧Below w.heap.size w w'
theorem RetOwnI.is {l:List Int} {w:World} {e:Ending} {w':World} (h:RetOwnI l w e w'):RetIs l w e w':=by
 obtain ⟨A,c,h1,h2,h3⟩:=h
 obtain ⟨_,_,hv,hc⟩:=own_form h2
 injection hv with _ _ hv
 subst hv
 exact ⟨A,c,h1,hc,Sl.of_own h2,h3⟩
theorem cut1_len (l:List Int) (r:Rg):(cut1 l r).length≤l.length+2:=by
 unfold cut1
 dsimp only
 have h1:(if inR 0 1114111 r.lo=true then placeL l r.lo else l).length≤l.length+1:=by
  split
  ·exact placeL_len _ _
  ·omega
 split
 ·have:=placeL_len (if inR 0 1114111 r.lo=true then placeL l r.lo else l) (r.hi+1);omega
 ·omega
theorem fold_len (rs:List Rg) (l:List Int):(rs.foldl cut1 l).length≤l.length+2*rs.length:=by
 induction rs generalizing l with
 | nil=>simp
 | cons r rs ih=>
  have:=ih (cut1 l r)
  have:=cut1_len l r
  simp only [List.foldl_cons,List.length_cons]
  omega
theorem cuts_len (rs:List Rg) (l:List Int):(cutsL l rs).length≤l.length+2*rs.length+1:=by
 unfold cutsL
 have:=placeL_len (rs.foldl cut1 l) 0
 have:=fold_len rs l
 omega
section
variable {p:Int→Bool} {cs:List Int} {i:Nat}
theorem bld_len:∀i,(bld p cs i).1.length≤i
 | 0=>Nat.le_refl _
 | i+1=>by
  have ih:=bld_len i
  simp only [bld]
  split
  ·dsimp only
   split
   ·rw [growL_len];omega
   ·rw [List.length_append];simp;omega
  ·dsimp only;omega
end
theorem flatR_sethi (d:List Rg) (i:Nat) (h:Int) {x:Rg} (hx:d[i]?=some x):(flatK Rg.cells d).set (i*2+1) (.int .i64 h)=flatK Rg.cells (d.set i ⟨x.lo,h⟩):=by
 induction d generalizing i with
 | nil=>simp at hx
 | cons y r ih=>
  cases i with
  | zero=>simp at hx;subst hx;simp [flatK,Rg.cells]
  | succ i=>
   have h1:=ih i (by simpa using hx)
   simp only [flatK,List.flatMap_cons,Rg.cells,List.cons_append,List.nil_append,List.set_cons_succ] at *
   rw [show (i+1)*2=i*2+1+1 by omega]
   simp only [List.set_cons_succ,h1]
theorem info_rg:(Tryz.prog.info? 131).map (fun i=>(i.zero,i.size,i.bytes))=some (some (.agg #[.int .i64 0,.int .i64 0]),2,16):=by kernel_rfl
theorem oneCell_rg (r:Rg):∀u ∈ Rg.cells r,u.oneCell'=true:=by
 intro u hu
 simp only [Rg.cells,List.mem_cons,List.not_mem_nil,or_false] at hu
 rcases hu with rfl | rfl <;> rfl
theorem own_le {w:World} {base:Nat} {e:TypeId} {size n c:Nat} {A:Option Addr} {xs:List Value} (h:w.ownsRow base e size (.slice A n c) n xs):n≤c:=by
 obtain ⟨_,_,hv,hc⟩:=own_form h
 injection hv with _ _ hv
 subst hv
 exact hc
theorem own_off {w:World} {base:Nat} {e:TypeId} {size n:Nat} {v:Value} {xs:List Value} (h:w.ownsRow base e size v n xs) {p:Addr} (hp:p.block < base) (u:Value):(w.setCell p u).ownsRow base e size v n xs:=
 h.kept (grown_set w p u) (by
  cases hv:v.ownBlock with
  | none=>exact .inl rfl
  | some q=>
   right
   have:=(h.lt q hv).1
   intro e
   injection e with e
   omega)
def RetSet (rs:List Rg) (w:World) (e:Ending) (w':World):Prop:=∃E d,e=.returned (.agg #[.slice E rs.length d])∧rs.length≤d∧Rgs w' E rs∧Below w.heap.size w w'
end Go.Proofs.YtijgbonhjcblcaaGreatDoor
namespace Go.Proofs.YtijgbonhjcblcaaGreatDoor
open Go.RowKit Go.Maps Go.WideMaps
theorem neq_rg (a b c d:Int) (w:World):(binOp .neq 131 (.agg #[.int .i64 a,.int .i64 b]) (.agg #[.int .i64 c,.int .i64 d])).run Tryz.prog w=.ok (.bool (!decide ((⟨a,b⟩:Rg)=⟨c,d⟩))) w:=by
 have u3:=Tryz.underlying3
 have a3:=Tryz.isAgg3
 have z3:=Tryz.sizeOf3
 have hS:Tryz.prog.underlying 131=some (.struct (Tryz.prog.fieldsOf 131)):=by kernel_rfl
 have hp:Tryz.prog.stoodInHeld 131=false:=by kernel_rfl
 rw [run_neq_struct,show (10000:Nat)=9999+1 from rfl,run_equalIn_agg w 9999 131 _ _ hS hp]
 simp only [Program.fieldsOf,Tryz.underlying131]
 go_simp
 by_cases h2:a=c <;> by_cases h3:b=d <;> simp [h2,h3]
theorem sameR_len {xs ys:List Rg} (h:xs.length≠ys.length):decide (xs=ys)=false:=by simp;exact fun e=>h (by rw [e])
theorem sameR_ne {xs ys:List Rg} {k:Nat} (h1:k < xs.length) (h2:k < ys.length) (h:¬xs[k]=ys[k]):decide (xs=ys)=false:=by simp;rintro rfl;exact h rfl
theorem sameR_eq {xs ys:List Rg} (hl:xs.length=ys.length) (h:∀t,(h1:t < xs.length)→(h2:t < ys.length)→xs[t]=ys[t]):decide (xs=ys)=true:=by simp;exact List.ext_getElem hl h
theorem canR_len (rs:List Rg):(canR rs).length≤2*rs.length+2:=by
 unfold canR
 have h1:=bld_len (p:=hasR rs) (cs:=cutsL (cutsL [] rs) []) (cutsL (cutsL [] rs) []).length
 have h2:(cutsL (cutsL [] rs) []).length≤(cutsL [] rs).length+2*0+1:=cuts_len [] (cutsL [] rs)
 have h3:(cutsL [] rs).length≤0+2*rs.length+1:=cuts_len rs []
 omega
theorem len64_any (n:Nat) (h:n≤12) (w:World):Calls Tryz.prog 181 #[.int .u64 n] w (fun e w'=>(∃z:Int,e=.returned (.int .i64 z))∧w=w'):=by
 obtain rfl | rfl | rfl | rfl | rfl | rfl | rfl | rfl | rfl | rfl | rfl | rfl | rfl:n=0∨n=1∨n=2∨n=3∨n=4∨n=5∨n=6∨n=7∨n=8∨n=9∨n=10∨n=11∨n=12:=by omega
 all_goals
  go_enter Tryz.func181,Tryz.ntmps181
  go_wp2
  go_ret
  exact ⟨⟨_,rfl⟩,rfl⟩
end Go.Proofs.YtijgbonhjcblcaaGreatDoor
namespace Go.Proofs.YtijgbonhjcblcaaGreatDoor
open Go.RowKit Go.Maps Go.WideMaps
theorem len_any (n:Nat) (h:n≤12) (w:World):Calls Tryz.prog 170 #[.int .u64 n] w (fun e w'=>(∃z:Int,e=.returned (.int .i64 z))∧w=w'):=by
 have LC:=Lib.hid (len64_any n h w)
 go_enter Tryz.func170,Tryz.ntmps170
 go_wp2_with fail
 refine LC.out.mono ?_
 rintro e w' ⟨⟨z,rfl⟩,rfl⟩
 go_wp2_with fail
 go_ret
 exact ⟨⟨_,rfl⟩,rfl⟩
theorem sortR_any (base g n c:Nat) (d:List Rg) (w:World) (hR:RRow w base g n c d) (hbig:n≤12) (hok:∀x ∈ d,clipOk x) :
  Calls Tryz.prog 159 #[.slice (some ⟨g,0,none⟩) n c,.func (.func 160) #[] #[]] w (RetR (fun d'=>Srt.Done rkey d d' 0 n) base g n c w):=by
 have LC:=Lib.hid (len_any n hbig w)
 have PC:=Lib.hid (fun z=>pdqR_any base g n c z d w hR hbig hok)
 have hu:IntKind.u64.wrap (n:Int)=(n:Int):=by rw [IntKind.wrap_u64];omega
 clear hR hok
 go_enter Tryz.func159,Tryz.ntmps159
 go_wp2_with fail
 refine LC.out.mono ?_
 rintro e w' ⟨⟨z,rfl⟩,rfl⟩
 go_wp2_with fail
 refine (PC.out z).mono ?_
 rintro e w1 ⟨rfl,d1,hD,hR1,hg1⟩
 have HD:=Lib.hid (And.intro hD (And.intro hR1 hg1))
 clear hD hR1 hg1
 go_wp2_with fail
 go_end0
 exact ⟨rfl,d1,HD.out.1,HD.out.2.1,HD.out.2.2⟩
def RetNone (w:World) (e:Ending) (w':World):Prop:=e=.returned (.tuple #[])∧w=w'
theorem insertR_zero (S:Option Addr) (n c:Nat) (hn:n≤0) (w:World):Calls Tryz.prog 172 #[.slice S n c,.int .i64 0,.int .i64 n,.func (.func 160) #[] #[]] w (RetNone w):=by
 have HN:=Lib.hid hn
 clear hn
 go_enter Tryz.func172,Tryz.ntmps172
 go_wp2
 go_loop [8] (fun i=>∃k:Nat,k=1∧i=.int .i64 k) (fun _=>0)
 case atStart=>exact ⟨1,rfl,rfl⟩
 case round=>
  obtain ⟨k,hk,rfl⟩:=hrel
  have hk1:¬k < n:=by have:=HN.out;omega
  clear hk HN
  go_wp2
  go_end0
  exact ⟨rfl,rfl⟩
theorem pdqR_zero (S:Option Addr) (n c:Nat) (hn:n≤0) (z:Int) (w:World):Calls Tryz.prog 169 #[.slice S n c,.int .i64 0,.int .i64 n,.int .i64 z,.func (.func 160) #[] #[]] w (RetNone w):=by
 have C:=Lib.hid (insertR_zero S n c hn w)
 have q1:decide ((n:Int)≤12)=true:=by simp;omega
 have q2:decide (n≤12)=true:=by simp;omega
 have hbig:n≤12:=by omega
 clear hn
 go_enter Tryz.func169,Tryz.ntmps169
 go_wp2_with fail
 refine wp_loop_rounds 1 ?_
 rw [rounds_succ]
 go_wp2_with fail
 refine C.out.mono ?_
 rintro e w1 ⟨rfl,hw⟩
 have HW:=Lib.hid hw
 clear hw
 go_wp2_with fail
 go_end0
 exact ⟨rfl,HW.out⟩
theorem sortR_zero (S:Option Addr) (n c:Nat) (hn:n≤0) (w:World):Calls Tryz.prog 159 #[.slice S n c,.func (.func 160) #[] #[]] w (RetNone w):=by
 have LC:=Lib.hid (len_any n (by omega) w)
 have PC:=Lib.hid (fun z=>pdqR_zero S n c hn z w)
 have hu:IntKind.u64.wrap (n:Int)=(n:Int):=by rw [IntKind.wrap_u64];omega
 have hbig:n≤12:=by omega
 clear hn
 go_enter Tryz.func159,Tryz.ntmps159
 go_wp2_with fail
 refine LC.out.mono ?_
 rintro e w' ⟨⟨z,rfl⟩,rfl⟩
 go_wp2_with fail
 refine (PC.out z).mono ?_
 rintro e w1 ⟨rfl,rfl⟩
 go_wp2_with fail
 go_end0
 exact ⟨rfl,rfl⟩
theorem anyR_congr {xs ys:List Rg} (h:∀r,r ∈ xs ↔ r ∈ ys) (c:Int):anyR xs c=true ↔ anyR ys c=true:=by
 rw [anyR_iff,anyR_iff]
 exact ⟨fun ⟨r,hr,h1⟩=>⟨r,(h r).1 hr,h1⟩,fun ⟨r,hr,h1⟩=>⟨r,(h r).2 hr,h1⟩⟩
theorem canR_of {rs ds out:List Rg} {b:Int} (hst:Srt.St rkey (clipL rs) ds) (hm:Mg ds out b):out=canR rs:=
 canR_unique hm.ok (fun c c0 c1=>by
  rw [hm.any c,anyR_congr (ys:=clipL rs) (fun r=>⟨fun h=>St_memR hst h,fun h=>St_memR' hst h⟩) c]
  exact clipL_any c0 c1)
theorem sorted_lo {ds:List Rg} {n:Nat} (hs:Srt.SortedOn rkey ds 0 n) (hok:∀r ∈ ds,clipOk r) (hn:ds.length=n) {i t:Nat} (hit:i < t) (ht:t < ds.length):(ds[i]'(by omega)).lo≤ds[t].lo:=by
 have h1:=hs i t (by omega) hit (by omega)
 rw [Srt.kf_some (List.getElem?_eq_getElem (show i < ds.length by omega)),Srt.kf_some (List.getElem?_eq_getElem ht)] at h1
 have a:=hok _ (List.getElem_mem (show i < ds.length by omega))
 have b:=hok _ (List.getElem_mem ht)
 unfold rkey at h1
 unfold clipOk at a b
 omega
section
variable {out:List Rg} {q:Rg}
theorem mrg_app {k:Nat} (hk:out.length=k+1) {x:Rg} (hx:out[k]?=some x) (h:¬q.lo≤x.hi+1):mrg out q=out++[q]:=by
 unfold mrg
 have:out.getLast?=some x:=by rw [List.getLast?_eq_getElem?,hk];simpa using hx
 rw [this]
 simp [h]
theorem mrg_set {k:Nat} (hk:out.length=k+1) {x:Rg} (hx:out[k]?=some x) (h:q.lo≤x.hi+1):mrg out q=out.set k ⟨x.lo,max x.hi q.hi⟩:=by
 unfold mrg
 have:out.getLast?=some x:=by rw [List.getLast?_eq_getElem?,hk];simpa using hx
 rw [this]
 simp only [h,if_true]
 rw [growL_set hk]
 have e:out[k]'(by omega)=x:=(List.getElem?_eq_some_iff.1 hx).2
 rw [e]
end
theorem results_pmake (tmps:Array Value) (w:World) {b:Nat} {v0:Value} (ha:tmps.getD 2 undef=.pointer (some ⟨b,0,none⟩)) (c0:w.cell? ⟨b,0,none⟩=some v0) :
  (results Tryz.f135 tmps).run Tryz.prog w=.ok (.agg #[v0]) w:=by
 have hr:Tryz.f135.results=#[.cell 2 26]:=rfl
 unfold results
 rw [hr]
 simp only [ha,List.mapM_toArray,List.mapM_cons,List.mapM_nil,asAddr]
 go_simp
theorem cpMake_any (A:Option Addr) (n a:Nat) (rs:List Rg) (w:World) (hA:Rgs w A rs) (hn:rs.length=n) (hz:n≤12) :
  Calls Tryz.prog 135 #[.slice A n a] w (RetSet (canR rs) w):=by
 subst hn
 have B0:Below w.heap.size w (w.alloc (.cells #[.slice none 0 0] 26)):=(Below.refl _ _).alloc (Nat.le_refl _) _
 have X0:Box (w.alloc (.cells #[.slice none 0 0] 26)) w.heap.size 26 [.slice none 0 0]:=Box.new _ _ _ rfl
 have s0:(w.alloc (.cells #[.slice none 0 0] 26)).heap.size=w.heap.size+1:=by simp
 have W0E:∃W0,(w.alloc (.cells #[.slice none 0 0] 26))=W0:=⟨_,rfl⟩
 have HA:=Lib.hid hA
 have HCO:=Lib.hid (fun ds out b h1 h2=>canR_of (rs:=rs) (ds:=ds) (out:=out) (b:=b) h1 h2)
 have HCL:=Lib.hid (clipL_ok rs)
 have hcl:=clipL_len rs
 generalize canR rs=R at *
 clear hA
 go_enter Tryz.func135,Tryz.ntmps135
 go_wp2_with fail
 obtain ⟨W0,hW0⟩:=W0E
 rw [hW0] at B0 X0 s0 ⊢
 clear hW0
 have HNIL:=Lib.hid (show W0.ownsRow W0.heap.size 131 2 (.slice none 0 0) 0 ([]:List Value) from World.ownsRow_nil _ _ _ _)
 have C0:=Lib.hid (show clipL (rs.take 0)=[] from rfl)
 go_loopw [3,13] (fun v u wr=>∃(i:Nat) (S:Option Addr) (k:Nat),i≤rs.length∧u=.int .i64 i∧v=.slice S (clipL (rs.take i)).length k∧wr.ownsRow W0.heap.size 131 2 (.slice S (clipL (rs.take i)).length k) (clipL (rs.take i)).length (flatK Rg.cells (clipL (rs.take i)))∧Below W0.heap.size W0 wr) (fun _ u _=>rs.length - (intOf u).toNat)
 case atStart=>exact ⟨0,none,0,Nat.zero_le _,rfl,by rw [C0.out];rfl,by rw [C0.out];exact HNIL.out,Below.refl _ _⟩
 case round=>
  obtain ⟨i,S,k,hi,rfl,rfl,hown,hbr⟩:=hrel
  have HOWN:=Lib.hid hown
  clear hown HNIL C0
  have hbw:=B0.trans (hbr.mono B0.size)
  have hcli:(clipL (rs.take i)).length≤i:=Nat.le_trans (clipL_len _) (List.length_take_le _ _)
  by_cases hlt:i < rs.length
  ·obtain ⟨b1,o1,rfl,hbl,hcell⟩:=(HA.out.below hbw).at hlt
   obtain ⟨c1,c2⟩:=hcell i hlt
   have CT:=Lib.hid (clipL_take hlt)
   have CP:=Lib.hid (show clip1 rs[i]=⟨max rs[i].lo 0,min rs[i].hi 1114111⟩ from rfl)
   clear hcell
   generalize hcc:clip1 rs[i]=cr at *
   clear hcc
   generalize rs[i]=ri at *
   generalize hL0:clipL (rs.take i)=L0 at *
   clear hL0
   obtain ⟨rlo,rhi⟩:=ri
   obtain ⟨pl,ph⟩:=cr
   dsimp only at *
   have e0:=CP.out
   injection e0 with e1 e2
   have em:(if rlo < 0 then (0:Int) else rlo)=pl:=by rw [e1];split <;> omega
   have eM:(if 1114111 < rhi then (1114111:Int) else rhi)=ph:=by rw [e2];split <;> omega
   clear e1 e2 CP
   have hn1:¬b1=wr.heap.size:=by omega
   have Bp:Below wr.heap.size wr ((wr.alloc (.cells #[.int .i64 rlo,.int .i64 rhi] 131)).alloc (.cells #[.int .i64 pl,.int .i64 ph] 131)):=((Below.refl _ _).alloc (Nat.le_refl _) _).alloc (by simp) _
   by_cases hp:pl≤ph
   ·have q1:decide (pl≤ph)=true:=by simpa using hp
    have ct:=CT.out
    rw [if_pos hp] at ct
    have HCT:=Lib.hid ct
    have Bq:Below wr.heap.size wr (((wr.alloc (.cells #[.int .i64 rlo,.int .i64 rhi] 131)).alloc (.cells #[.int .i64 pl,.int .i64 ph] 131)).alloc (.cells #[.int .i64 pl,.int .i64 ph] 131)):=Bp.alloc Bp.size _
    have HOP:=Lib.hid (own_keep HOWN.out Bq)
    have szp:W0.heap.size≤(((wr.alloc (.cells #[.int .i64 rlo,.int .i64 rhi] 131)).alloc (.cells #[.int .i64 pl,.int .i64 ph] 131)).alloc (.cells #[.int .i64 pl,.int .i64 ph] 131)).heap.size:=Nat.le_trans hbr.size Bq.size
    have hb9:=hbr.trans (Bq.mono hbr.size)
    clear CT ct HOWN Bp Bq
    go_wp2_with (at_builtin;refine wpList_app _ _ 24 131 (.agg #[.int .i64 0,.int .i64 0]) 2 16 rfl rfl Tryz.underlying24 info_rg rfl (by decide) (by decide) rfl HOP.out rfl (Sl_new _ (Rg.cells ⟨pl,ph⟩) _ (by simp)) rfl (oneCell_rg _) (by omega) szp ?_;intro A7 c7 w7 hown7 hc7 hb7 _ _;have HO7:=Lib.hid hown7;clear hown7)
    go_roundw
    case rel=>exact ⟨i+1,A7,c7,by omega,by go_num,by rw [HCT.out,List.length_append];rfl,by rw [HCT.out,List.length_append,flatK_append];exact HO7.out,hb9.trans hb7⟩
    case measure=>simp [intOf];omega
   ·have q1:decide (pl≤ph)=false:=by simpa using hp
    have ct:=CT.out
    rw [if_neg hp,List.append_nil] at ct
    have HCT:=Lib.hid ct
    have HOP:=Lib.hid (own_keep HOWN.out Bp)
    have hb9:=hbr.trans (Bp.mono hbr.size)
    clear CT ct HOWN Bp
    go_wp2_with fail
    go_roundw
    case rel=>exact ⟨i+1,S,k,by omega,by go_num,by rw [HCT.out],by rw [HCT.out];exact HOP.out,hb9⟩
    case measure=>simp [intOf];omega
  ·rw [List.take_of_length_le (show rs.length≤i by omega)] at HOWN ⊢
   clear hcli
   have SRT:=Lib.hid (show Calls Tryz.prog 159 #[.slice S (clipL rs).length k,.func (.func 160) #[] #[]] wr (fun e w'=>e=.returned (.tuple #[])∧∃ds,ds.length=(clipL rs).length∧Srt.St rkey (clipL rs) ds∧Srt.SortedOn rkey ds 0 (clipL rs).length∧Rgs w' S ds∧Below W0.heap.size W0 w') by
    rcases Nat.eq_zero_or_pos (clipL rs).length with h0 | h0
    ·have hnil:clipL rs=[]:=List.length_eq_zero_iff.1 h0
     exact (sortR_zero S (clipL rs).length k (by omega) wr).mono (fun e w' ⟨he,hw⟩=>⟨he,[],by rw [hnil],by rw [hnil];exact Srt.St.refl _,Srt.SortedOn.short (by omega),Sl.nil _ _,by subst hw;exact hbr⟩)
    ·have ho:=HOWN.out
     obtain ⟨g,hS⟩:∃g,S=some ⟨g,0,none⟩:=by
      rcases ho.2 with ⟨_,h1⟩ | ⟨g,cap,cur,hv',_⟩
      ·omega
      ·injection hv' with hA' _ _;exact ⟨g,hA'⟩
     subst hS
     have hg0:W0.heap.size≤g:=(ho.lt g rfl).1
     refine (sortR_any W0.heap.size g (clipL rs).length k (clipL rs) wr ho (by omega) HCL.out).mono (fun e w' ⟨he,d1,hD,hR1,hg1⟩=>⟨he,d1,hR1.len,hD.2.1,hD.2.2,Sl.of_own hR1,below_grown hbr hg1 hg0 hbr.size⟩))
   clear HOWN
   generalize hcl0:clipL rs=cl at *
   clear hcl0
   go_wp2_with fail
   with_reducible refine SRT.out.mono ?_
   rintro e W2 ⟨rfl,ds,hdl,hst,hso,hds,hb2⟩
   have HDS:=Lib.hid hds
   have HST:=Lib.hid hst
   have HDL:=Lib.hid hdl
   have HOK:=Lib.hid (show ∀r ∈ ds,clipOk r from fun r hr=>HCL.out r (St_memR hst hr))
   have HLO:=Lib.hid (show ∀i t,(hit:i < t)→(ht:t < ds.length)→(ds[i]'(by omega)).lo≤ds[t].lo from fun i t hit ht=>sorted_lo hso (fun r hr=>HCL.out r (St_memR hst hr)) hdl (i:=i) (t:=t) hit ht)
   rw [←hdl]
   have hdz:ds.length≤12:=by omega
   clear SRT hds hst hso hdl
   have HNIL:=Lib.hid (show W2.ownsRow W2.heap.size 131 2 (.slice none 0 0) 0 ([]:List Value) from World.ownsRow_nil _ _ _ _)
   have hb3:=B0.trans (hb2.mono B0.size)
   go_wp2_with fail
   go_loopw [7,38] (fun v u wr=>∃(i:Nat) (S:Option Addr) (k:Nat) (out:List Rg) (b:Int),i≤ds.length∧u=.int .i64 i∧v=.slice S out.length k∧wr.ownsRow W2.heap.size 131 2 (.slice S out.length k) out.length (flatK Rg.cells out)∧out.length≤i∧Mg (ds.take i) out b∧(∀t,(ht:t < ds.length)→i≤t→b≤ds[t].lo)∧Below W2.heap.size W2 wr) (fun _ u _=>ds.length - (intOf u).toNat)
   case atStart=>exact ⟨0,none,0,[],0,Nat.zero_le _,rfl,rfl,HNIL.out,Nat.le_refl _,Mg.nil 0,fun t ht _=>(HOK.out _ (List.getElem_mem ht)).1,Below.refl _ _⟩
   case round=>
    obtain ⟨i,S',k',out,b,hi,rfl,rfl,hown,hol,hMg,hbl',hbr2⟩:=hrel
    have HOWN:=Lib.hid hown;have HMG:=Lib.hid hMg;have HBL:=Lib.hid hbl'
    clear hown hMg hbl' HNIL
    by_cases hlt:i < ds.length
    ·obtain ⟨b1,o1,rfl,hbl,hcell⟩:=(HDS.out.below hbr2).at hlt
     obtain ⟨c1,c2⟩:=hcell i hlt
     have hclip:=HOK.out ds[i] (List.getElem_mem hlt)
     have HMS:=Lib.hid (show Mg (ds.take (i+1)) (mrg out ds[i]) ds[i].lo by rw [List.take_succ_eq_append_getElem hlt];exact HMG.out.step (HBL.out i hlt (Nat.le_refl _)) hclip)
     have HBS:=Lib.hid (show ∀t,(ht:t < ds.length)→i+1≤t→ds[i].lo≤ds[t].lo from fun t ht hit=>HLO.out i t (by omega) ht)
     have MO:=Lib.hid (fun hk x hx h=>mrg_app (out:=out) (q:=ds[i]'hlt) (k:=out.length - 1) hk (x:=x) hx h)
     have MS:=Lib.hid (fun hk x hx h=>mrg_set (out:=out) (q:=ds[i]'hlt) (k:=out.length - 1) hk (x:=x) hx h)
     have MN:=Lib.hid (fun (h:out=[])=>show mrg out ds[i]=out++[ds[i]] by subst h;rfl)
     have HOO:=Lib.hid HMG.out.ok.1
     clear hcell HMG HBL
     generalize mrg out ds[i]=M1 at *
     generalize ds[i]=q at *
     obtain ⟨qlo,qhi⟩:=q
     dsimp only at *
     unfold clipOk at hclip
     dsimp only at hclip
     have Ba:Below wr.heap.size wr (wr.alloc (.cells #[.int .i64 qlo,.int .i64 qhi] 131)):=(Below.refl _ _).alloc (Nat.le_refl _) _
     have sa:(wr.alloc (.cells #[.int .i64 qlo,.int .i64 qhi] 131)).heap.size=wr.heap.size+1:=by simp
     have x0:(wr.alloc (.cells #[.int .i64 qlo,.int .i64 qhi] 131)).cell? ⟨wr.heap.size,0,none⟩=some (.int .i64 qlo):=by simp
     have x1:(wr.alloc (.cells #[.int .i64 qlo,.int .i64 qhi] 131)).cell? ⟨wr.heap.size,1,none⟩=some (.int .i64 qhi):=by simp
     have HOA:=Lib.hid (own_keep HOWN.out Ba)
     have HGW:=Lib.hid (show ∀g,S'=some ⟨g,0,none⟩→g < wr.heap.size from fun g e=>(HOWN.out.lt g (by rw [e];rfl)).2)
     have hb4:=hbr2.trans (Ba.mono hbr2.size)
     have WaE:∃Wa,wr.alloc (.cells #[.int .i64 qlo,.int .i64 qhi] 131)=Wa:=⟨_,rfl⟩
     have hn1:¬b1=wr.heap.size:=by omega
     clear HOWN
     go_wp2_with fail
     obtain ⟨Wa,hWa⟩:=WaE
     rw [hWa] at Ba sa x0 x1 HOA hb4 ⊢
     clear hWa c1 c2
     rcases Nat.eq_zero_or_pos out.length with hl0 | hl0
     ·have hnil:out=[]:=List.length_eq_zero_iff.1 hl0
      obtain rfl:=MN.out hnil
      have q0:decide ((0:Int) < (out.length:Int))=false:=by simp [hnil]
      have q00:decide (0 < out.length)=false:=by simp [hnil]
      clear MN MO MS hnil hl0
      go_quiet (fail)
      have x0q:(Wa.drewN nq).cell? ⟨wr.heap.size,0,none⟩=some (.int .i64 qlo):=x0
      have x1q:(Wa.drewN nq).cell? ⟨wr.heap.size,1,none⟩=some (.int .i64 qhi):=x1
      have HOQ:=Lib.hid (show (Wa.drewN nq).ownsRow W2.heap.size 131 2 (.slice S' out.length k') out.length (flatK Rg.cells out) from HOA.out)
      have hb5:=below_drewN hb4 nq
      have hxq:wr.heap.size < (Wa.drewN nq).heap.size:=by show wr.heap.size < Wa.heap.size;omega
      clear HOA hb4 sa x0 x1
      generalize Wa.drewN nq=Wq at *
      have Bq:Below Wq.heap.size Wq (Wq.alloc (.cells #[.int .i64 qlo,.int .i64 qhi] 131)):=(Below.refl _ _).alloc (Nat.le_refl _) _
      have HOP:=Lib.hid (own_keep HOQ.out Bq)
      have hb6:=hb5.trans (Bq.mono hb5.size)
      have szp:W2.heap.size≤(Wq.alloc (.cells #[.int .i64 qlo,.int .i64 qhi] 131)).heap.size:=hb6.size
      clear HOQ Bq
      go_wp2_with (at_builtin;refine wpList_app _ _ 24 131 (.agg #[.int .i64 0,.int .i64 0]) 2 16 rfl rfl Tryz.underlying24 info_rg rfl (by decide) (by decide) rfl HOP.out rfl (Sl_new _ (Rg.cells ⟨qlo,qhi⟩) _ rfl) rfl (oneCell_rg _) (by omega) szp ?_;intro A7 c7 w7 hown7 hc7 hb7 _ _;have HO7:=Lib.hid hown7;clear hown7)
      go_roundw
      case rel=>exact ⟨i+1,A7,c7,out++[⟨qlo,qhi⟩],qlo,by omega,by go_num,by rw [List.length_append];rfl,by rw [List.length_append,flatK_append];exact HO7.out,by rw [List.length_append];simp;omega,HMS.out,HBS.out,hb6.trans hb7⟩
      case measure=>simp [intOf];omega
     ·obtain ⟨j,hj⟩:∃j,out.length=j+1:=⟨out.length - 1,by omega⟩
      have hjx:j < out.length:=by omega
      have MO:=Lib.hid (fun (x:Rg) (hx:out[j]?=some x) (h:¬qlo≤x.hi+1)=>MO.out (by omega) x (by rw [show out.length - 1=j by omega];exact hx) (by omega))
      have MS:=Lib.hid (fun (x:Rg) (hx:out[j]?=some x) (h:qlo≤x.hi+1)=>(MS.out (by omega) x (by rw [show out.length - 1=j by omega];exact hx) (by omega)))
      obtain ⟨y,hy⟩:=get_of_ltR hjx
      have hyo:=HOO.out y (List.mem_of_getElem? hy)
      unfold clipOk at hyo
      obtain ⟨g,hS⟩:∃g,S'=some ⟨g,0,none⟩:=by
       rcases HOA.out.2 with ⟨_,h1⟩ | ⟨g,cap,cur,hv',_⟩
       ·omega
       ·injection hv' with hA' _ _;exact ⟨g,hA'⟩
      subst hS
      have gO:W2.heap.size≤g:=(HOA.out.lt g rfl).1
      have gl:g < Wa.heap.size:=(HOA.out.lt g rfl).2
      have y1:Wa.cell? ⟨g,j*2+1,none⟩=some (.int .i64 y.hi):=by
       rw [World.ownsRow.cellAt HOA.out (j*2+1) (by omega),flatK_get Rg.cells 2 (fun _=>rfl) out j 1 hjx (by omega),(List.getElem?_eq_some_iff.1 hy).2]
       rfl
      have f1:=World.ownsRow.frozenAt HOA.out (j*2+1)
      have HY:=Lib.hid hy
      have HJ:=Lib.hid hj
      have i0:decide ((0:Int) < (out.length:Int))=true:=by simp;omega
      have i1:IntKind.i64.wrap ((out.length:Int) - 1)=(j:Int):=by rw [IntWalk.i64_in _ (by omega)];omega
      have i2:(0:Int)≤(j:Int):=by omega
      have i3:((j:Int)).toNat=j:=by omega
      have i4:(j:Int) < (out.length:Int):=by omega
      have i5:IntKind.i64.wrap (y.hi+1)=y.hi+1:=IntWalk.i64_in _ (by omega)
      have yhi:=hyo
      clear hy hj MN
      have HGB:=Lib.hid (show g < wr.heap.size from HGW.out g rfl)
      by_cases hm:qlo≤y.hi+1
      ·have q1:decide (qlo≤y.hi+1)=true:=by simpa using hm
       have HMS2:=Lib.hid (MS.out y HY.out hm)
       clear MO MS
       go_quiet (fail)
       have x0q:(Wa.drewN nq).cell? ⟨wr.heap.size,0,none⟩=some (.int .i64 qlo):=x0
       have x1q:(Wa.drewN nq).cell? ⟨wr.heap.size,1,none⟩=some (.int .i64 qhi):=x1
       have HOQ:=Lib.hid (show (Wa.drewN nq).ownsRow W2.heap.size 131 2 (.slice (some ⟨g,0,none⟩) out.length k') out.length (flatK Rg.cells out) from HOA.out)
       have hb5:=below_drewN hb4 nq
       have hxq:wr.heap.size < (Wa.drewN nq).heap.size:=by show wr.heap.size < Wa.heap.size;omega
       clear HOA hb4 sa x0 x1
       have y1q:(Wa.drewN nq).cell? ⟨g,j*2+1,none⟩=some (.int .i64 y.hi):=y1
       have f1q:(Wa.drewN nq).frozen? ⟨g,j*2+1,none⟩=false:=f1
       clear y1 f1
       generalize Wa.drewN nq=Wq at *
       have hgne:¬g=wr.heap.size:=by have:=HGB.out;omega
       go_wp2_with fail
       go_region
       all_goals
        have hmx:(if y.hi < qhi then qhi else y.hi)=max y.hi qhi:=by split <;> omega
        have st:=World.ownsRow.stored HOQ.out (j*2+1) (.int .i64 (if y.hi < qhi then qhi else y.hi))
        rw [flatR_sethi out j _ HY.out] at st
        have HST2:=Lib.hid st.1
        have hbs:=hb5.setCell (p:=⟨g,j*2+1,none⟩) gO (.int .i64 (if y.hi < qhi then qhi else y.hi))
        have HMX:=Lib.hid hmx
        clear st hmx
        go_wp2_with fail
        go_roundw
        case rel=>
         have e0:out.length - 1=j:=by have:=HJ.out;omega
         have e1:=HMS2.out
         rw [e0] at e1
         subst e1
         refine ⟨i+1,some ⟨g,0,none⟩,k',out.set j ⟨y.lo,max y.hi qhi⟩,qlo,by omega,by go_num,by rw [List.length_set],?_,by rw [List.length_set];omega,HMS.out,HBS.out,hbs.drew⟩
         rw [List.length_set,←HMX.out]
         exact HST2.out
        case measure=>simp [intOf];omega
      ·have q1:decide (qlo≤y.hi+1)=false:=by simpa using hm
       obtain rfl:=MO.out y HY.out hm
       clear MO MS
       go_quiet (fail)
       clear i0 i1 i2 i3 i4 i5 y1 f1
       have x0q:(Wa.drewN nq).cell? ⟨wr.heap.size,0,none⟩=some (.int .i64 qlo):=x0
       have x1q:(Wa.drewN nq).cell? ⟨wr.heap.size,1,none⟩=some (.int .i64 qhi):=x1
       have HOQ:=Lib.hid (show (Wa.drewN nq).ownsRow W2.heap.size 131 2 (.slice (some ⟨g,0,none⟩) out.length k') out.length (flatK Rg.cells out) from HOA.out)
       have hb5:=below_drewN hb4 nq
       have hxq:wr.heap.size < (Wa.drewN nq).heap.size:=by show wr.heap.size < Wa.heap.size;omega
       clear HOA hb4 sa x0 x1
       generalize Wa.drewN nq=Wq at *
       have Bq:Below Wq.heap.size Wq (Wq.alloc (.cells #[.int .i64 qlo,.int .i64 qhi] 131)):=(Below.refl _ _).alloc (Nat.le_refl _) _
       have HOP:=Lib.hid (own_keep HOQ.out Bq)
       have hb6:=hb5.trans (Bq.mono hb5.size)
       have szp:W2.heap.size≤(Wq.alloc (.cells #[.int .i64 qlo,.int .i64 qhi] 131)).heap.size:=hb6.size
       clear HOQ Bq
       go_wp2_with (at_builtin;refine wpList_app _ _ 24 131 (.agg #[.int .i64 0,.int .i64 0]) 2 16 rfl rfl Tryz.underlying24 info_rg rfl (by decide) (by decide) rfl HOP.out rfl (Sl_new _ (Rg.cells ⟨qlo,qhi⟩) _ rfl) rfl (oneCell_rg _) (by omega) szp ?_;intro A7 c7 w7 hown7 hc7 hb7 _ _;have HO7:=Lib.hid hown7;clear hown7)
       go_roundw
       case rel=>exact ⟨i+1,A7,c7,out++[⟨qlo,qhi⟩],qlo,by omega,by go_num,by rw [List.length_append];rfl,by rw [List.length_append,flatK_append];exact HO7.out,by rw [List.length_append];simp;omega,HMS.out,HBS.out,hb6.trans hb7⟩
       case measure=>simp [intOf];omega
    ·have hmg:=HMG.out
     rw [List.take_of_length_le (show ds.length≤i by omega)] at hmg
     obtain rfl:=HCO.out ds out b HST.out hmg
     have hb6:=hb2.trans (hbr2.mono hb2.size)
     have hb7:=B0.trans (hb6.mono B0.size)
     have X9:=X0.below hb6 X0.lt
     have z9:=X9.cell (i:=0) rfl
     have f9:=X9.free 0
     have hxr:=X9.lt
     have hxw:w.heap.size < W2.heap.size:=by have:=hb2.size;omega
     have hbf:=hb7.setCell (p:=⟨w.heap.size,0,none⟩) (Nat.le_refl _) (.slice S' out.length k')
     have HRW:=Lib.hid (Sl.of_own (own_off HOWN.out (p:=⟨w.heap.size,0,none⟩) hxw (.slice S' out.length k')))
     have hc:=own_le HOWN.out
     clear HMG hmg HOWN HCO X9
     go_wp2_with fail
     (try simp only [Exit.inBlock,Exit.then]);refine bodyPost_ret (results_pmake _ _ (b:=w.heap.size) (v0:=.slice S' out.length k') rfl (by go_simp)) rfl ?_
     exact ⟨S',k',rfl,hc,HRW.out,hbf⟩
end Go.Proofs.YtijgbonhjcblcaaGreatDoor
namespace Go.Proofs.YtijgbonhjcblcaaGreatDoor
open Go.RowKit Go.Maps Go.WideMaps
theorem cpValidS_any (A:Option Addr) (n a:Nat) (ys:List Rg) (w:World) (hA:Rgs w A ys) (hn:ys.length=n) (hz:n≤12) :
  Calls Tryz.prog 92 #[.agg #[.slice A n a]] w (RetBool (setOk ys) w):=by
 subst hn
 have B0:Below w.heap.size w (w.alloc (.cells #[.slice A ys.length a] 26)):=(Below.refl _ _).alloc (Nat.le_refl _) _
 have k0:(w.alloc (.cells #[.slice A ys.length a] 26)).cell? ⟨w.heap.size,0,none⟩=some (.slice A ys.length a):=by simp
 have s0:(w.alloc (.cells #[.slice A ys.length a] 26)).heap.size=w.heap.size+1:=by simp
 have W0E:∃W0,(w.alloc (.cells #[.slice A ys.length a] 26))=W0:=⟨_,rfl⟩
 have MC:=Lib.hid (fun W (hb:Below w.heap.size w W)=>cpMake_any A ys.length a ys W (hA.below hb) rfl hz)
 have hcl:=canR_len ys
 have S0:=Lib.hid (show setOk ys=decide (canR ys=ys) from rfl)
 generalize canR ys=xs at *
 have S1:=Lib.hid (sameR_len (xs:=xs) (ys:=ys))
 have S2:=Lib.hid (fun k h1 h2 h=>sameR_ne (xs:=xs) (ys:=ys) (k:=k) h1 h2 h)
 have S3:=Lib.hid (sameR_eq (xs:=xs) (ys:=ys))
 generalize decide (xs=ys)=R at *
 generalize setOk ys=R' at *
 obtain rfl:=S0.out
 have HA:=Lib.hid (fun W (hb:Below w.heap.size w W)=>hA.below hb)
 clear hA
 go_enter Tryz.func92,Tryz.ntmps92
 go_wp2_with fail
 obtain ⟨W0,hW0⟩:=W0E
 rw [hW0] at B0 k0 s0 ⊢
 clear hW0
 have hx0:w.heap.size < W0.heap.size:=by omega
 with_reducible refine (MC.out W0 B0).mono ?_
 rintro e W1 ⟨E,d,rfl,hd,hE,hb1⟩
 have HE:=Lib.hid hE
 have f0:=(hb1.cell (p:=⟨w.heap.size,0,none⟩) hx0).trans k0
 have hx1:w.heap.size < W1.heap.size:=by have:=hb1.size;omega
 have hxn:¬w.heap.size=W1.heap.size:=by omega
 have Bm:Below W1.heap.size W1 (W1.alloc (.cells #[.slice E xs.length d] 26)):=(Below.refl _ _).alloc (Nat.le_refl _) _
 have m0:(W1.alloc (.cells #[.slice E xs.length d] 26)).cell? ⟨W1.heap.size,0,none⟩=some (.slice E xs.length d):=by simp
 have g0:=(Bm.cell (p:=⟨w.heap.size,0,none⟩) hx1).trans f0
 have sm:(W1.alloc (.cells #[.slice E xs.length d] 26)).heap.size=W1.heap.size+1:=by simp
 have hb2:=B0.trans (hb1.mono B0.size)
 have hb3:=hb2.trans (Bm.mono hb2.size)
 have HE2:=Lib.hid (HE.out.below Bm)
 have W2E:∃W2,W1.alloc (.cells #[.slice E xs.length d] 26)=W2:=⟨_,rfl⟩
 clear MC hE HE k0
 by_cases hl:xs.length=ys.length
 rotate_left
 ·obtain rfl:=S1.out hl
  have q1:((xs.length:Int) != (ys.length:Int))=true:=by simp;omega
  go_wp2_with fail
  go_ret
  exact ⟨rfl,hb3⟩
 have q1:((xs.length:Int) != (ys.length:Int))=false:=by simp;omega
 have hle:xs.length≤ys.length:=by omega
 have S3':=Lib.hid (S3.out hl)
 clear hl S1 S3
 go_wp2_with fail
 obtain ⟨W2,hW2⟩:=W2E
 rw [hW2] at Bm m0 g0 sm hb3 HE2 ⊢
 clear hW2 q1 f0
 have hy0:w.heap.size < W2.heap.size:=by omega
 have G0:=Lib.hid g0
 clear g0 m0
 go_loopw [19] (fun u wr=>∃i:Nat,i≤xs.length∧u=.int .i64 i∧(∀t,(h1:t < xs.length)→(h2:t < ys.length)→t < i→xs[t]=ys[t])∧Below W2.heap.size W2 wr) (fun u _=>xs.length - (intOf u).toNat)
 case atStart=>exact ⟨0,Nat.zero_le _,rfl,fun t _ _ h=>by omega,Below.refl _ _⟩
 case round=>
  obtain ⟨i,hi,rfl,hno,hbr⟩:=hrel
  have HNO:=Lib.hid hno
  clear hno
  have f0:=(hbr.cell (p:=⟨w.heap.size,0,none⟩) hy0).trans G0.out
  have hyr:w.heap.size < wr.heap.size:=by have:=hbr.size;omega
  have hyn:¬w.heap.size=wr.heap.size:=by omega
  have hbw:=hb3.trans (hbr.mono hb3.size)
  by_cases hlt:i < xs.length
  ·have hlt2:i < ys.length:=by omega
   obtain ⟨b1,o1,rfl,hbl,hcell⟩:=(HE2.out.below hbr).at hlt
   obtain ⟨c1,c2⟩:=hcell i hlt
   obtain ⟨b2,o2,rfl,hbl2,hcell2⟩:=(HA.out wr hbw).at hlt2
   obtain ⟨d1,d2⟩:=hcell2 i hlt2
   have HY:=Lib.hid (fun h=>S2.out i hlt hlt2 h)
   have HN:=Lib.hid (fun (h:xs[i]=ys[i])=>show ∀t,(h1:t < xs.length)→(h2:t < ys.length)→t < i+1→xs[t]=ys[t] from fun t h1 h2 ht=>by
    by_cases e:t < i
    ·exact HNO.out t h1 h2 e
    ·obtain rfl:t=i:=by omega
     exact h)
   clear hcell hcell2
   generalize xs[i]=x at *
   generalize ys[i]=y at *
   obtain ⟨xl,xh⟩:=x
   obtain ⟨yl,yh⟩:=y
   dsimp only at *
   have n1:¬b1=wr.heap.size:=by omega
   have n2:¬b2=wr.heap.size:=by omega
   have i1:(0:Int)≤(i:Int):=by omega
   have i2:(i:Int) < (xs.length:Int):=by omega
   have i3:((i:Int)).toNat=i:=by omega
   have i4:(i:Int) < (ys.length:Int):=by omega
   have Bx:Below wr.heap.size wr (wr.alloc (.cells #[.int .i64 xl,.int .i64 xh] 131)):=(Below.refl _ _).alloc (Nat.le_refl _) _
   have x0:(wr.alloc (.cells #[.int .i64 xl,.int .i64 xh] 131)).cell? ⟨wr.heap.size,0,none⟩=some (.int .i64 xl):=by simp
   have x1:(wr.alloc (.cells #[.int .i64 xl,.int .i64 xh] 131)).cell? ⟨wr.heap.size,1,none⟩=some (.int .i64 xh):=by simp
   have e0:=(Bx.cell (p:=⟨w.heap.size,0,none⟩) hyr).trans f0
   have e1:=(Bx.cell (p:=⟨b2,o2+i*2,none⟩) hbl2).trans d1
   have e2:=(Bx.cell (p:=⟨b2,o2+i*2+1,none⟩) hbl2).trans d2
   have hb5:=hbr.trans (Bx.mono hbr.size)
   have WxE:∃Wx,wr.alloc (.cells #[.int .i64 xl,.int .i64 xh] 131)=Wx:=⟨_,rfl⟩
   clear f0 d1 d2
   go_wp2_with fail
   obtain ⟨Wx,hWx⟩:=WxE
   rw [hWx] at Bx x0 x1 e0 e1 e2 hb5 ⊢
   clear hWx c1 c2
   by_cases he:(⟨xl,xh⟩:Rg)=⟨yl,yh⟩
   ·have HQ:=Lib.hid (HN.out he)
    have NR1:∀W,(binOp .neq 131 (.agg #[.int .i64 xl,.int .i64 xh]) (.agg #[.int .i64 yl,.int .i64 yh])).run Tryz.prog W=.ok (.bool false) W:=fun W=>by rw [neq_rg,he];simp
    clear HY HN he
    go_quiet (fail)
    go_wp2_with fail
    go_roundw
    case rel=>exact ⟨i+1,by omega,by go_num,HQ.out,below_drewN hb5 _⟩
    case measure=>simp [intOf];omega
   ·obtain rfl:=HY.out he
    have NR1:∀W,(binOp .neq 131 (.agg #[.int .i64 xl,.int .i64 xh]) (.agg #[.int .i64 yl,.int .i64 yh])).run Tryz.prog W=.ok (.bool true) W:=fun W=>by rw [neq_rg,decide_eq_false he];rfl
    clear HY HN he
    go_quiet (fail)
    go_wp2_with fail
    go_ret
    exact ⟨rfl,hb3.trans ((below_drewN hb5 _).mono hb3.size)⟩
  ·obtain rfl:=S3'.out (fun t h1 h2=>HNO.out t h1 h2 (by omega))
   go_wp2_with fail
   go_ret
   exact ⟨rfl,hbw⟩
end Go.Proofs.YtijgbonhjcblcaaGreatDoor
