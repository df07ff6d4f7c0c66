/- Texts that are merged into one file: ORuns, OCollect, SetB, StepApp. -/
import Derived.Test.YtijgbonhjcblcaaGreatDoorM01
import Derived.Test.YtijgbonhjcblcaaGreatDoorM04
import Derived.Test.YtijgbonhjcblcaaGreatDoorM07
import Derived.RangeFuncNested
import Derived.RangeFuncBound
import Derived.RangeFuncCalls
import Derived.RangeFuncLeaves
import Derived.Shelf.Abstract
import Derived.Shelf.RegionOpen
import Derived.WalkKit
import Derived.OwnWalkIn
import Derived.TacticsInMore
import Derived.LoopNIn
import Derived.LoopIn
import Derived.RangeFuncBox
import Derived.Maps.AppendAt
import Derived.Maps.OwnIn
import Derived.Deep.AppendLies
set_option maxRecDepth 100000
set_option maxHeartbeats 51200000
namespace Go.Proofs.YtijgbonhjcblcaaGreatDoor
open Go.RowKit Go.Shelf
attribute [local go_sem] Oper.semAt_some
def KeepX (n₀ bo:Nat) (W W':World):Prop:=W.heap.size≤W'.heap.size∧∀k,k < n₀→k≠bo→W'.heap[k]?=W.heap[k]?
theorem KeepX.refl (n₀ bo:Nat) (W:World):KeepX n₀ bo W W:=⟨Nat.le_refl _,fun _ _ _=>rfl⟩
theorem KeepX.trans {n₀ bo:Nat} {A B C:World} (h:KeepX n₀ bo A B) (g:KeepX n₀ bo B C):KeepX n₀ bo A C:=⟨Nat.le_trans h.1 g.1,fun k hk hne=>(g.2 k hk hne).trans (h.2 k hk hne)⟩
theorem KeepX.cell {n₀ bo:Nat} {W W':World} (h:KeepX n₀ bo W W') {p:Addr} (h1:p.block < n₀) (h2:p.block≠bo):W'.cell? p=W.cell? p:=World.cell?_of_block (w:=W) (h.2 p.block h1 h2)
def Within (n₀ bo:Nat) (A:Option Addr):Prop:=∀b o,A=some ⟨b,o,none⟩→b < n₀∧b≠bo
theorem Sl.keepX {n₀ bo:Nat} {W W':World} {A:Option Addr} {cs:List Value} (h:Sl W A cs) (hk:KeepX n₀ bo W W') (hw:cs≠[]→Within n₀ bo A):Sl W' A cs:=by
 intro hne
 obtain ⟨b,o,rfl,hc⟩:=h hne
 obtain ⟨h1,h2⟩:=hw hne b o rfl
 exact ⟨b,o,rfl,fun j u hu=>(hk.cell (p:=⟨b,o+j,none⟩) h1 h2).trans (hc j u hu)⟩
structure Mem (Bt Bs:Nat) (A:Option Addr) (nt kt:Nat) (text:List Int) (A':Option Addr) (ns ks:Nat) (ss:List Spn) (W:World):Prop where
 bt:W.cell? ⟨Bt,0,none⟩=some (.slice A nt kt)
 bs:W.cell? ⟨Bs,0,none⟩=some (.slice A' ns ks)
 tx:Ints W A text
 sp:Spans W A' ss
theorem Mem.below {Bt Bs:Nat} {A:Option Addr} {nt kt:Nat} {text:List Int} {A':Option Addr} {ns ks:Nat} {ss:List Spn} {W W':World} (h:Mem Bt Bs A nt kt text A' ns ks ss W) (hb:Below W.heap.size W W'):Mem Bt Bs A nt kt text A' ns ks ss W':=
 ⟨(hb.cell (World.block_lt_of_cell? W _ h.bt)).trans h.bt,(hb.cell (World.block_lt_of_cell? W _ h.bs)).trans h.bs,h.tx.below hb,h.sp.below hb⟩
theorem Mem.keepX {n₀ bo Bt Bs:Nat} {A:Option Addr} {nt kt:Nat} {text:List Int} {A':Option Addr} {ns ks:Nat} {ss:List Spn} {W W':World} (h:Mem Bt Bs A nt kt text A' ns ks ss W) (hk:KeepX n₀ bo W W')
  (h1:Bt < n₀∧Bt≠bo) (h2:Bs < n₀∧Bs≠bo) (h3:text≠[]→Within n₀ bo A) (h4:ss≠[]→Within n₀ bo A'):Mem Bt Bs A nt kt text A' ns ks ss W':=
 ⟨(hk.cell (p:=⟨Bt,0,none⟩) h1.1 h1.2).trans h.bt,(hk.cell (p:=⟨Bs,0,none⟩) h2.1 h2.2).trans h.bs,Sl.keepX h.tx hk (fun hne=>h3 (by rintro rfl;exact hne rfl)),Sl.keepX h.sp hk (fun hne=>h4 (by rintro rfl;exact hne rfl))⟩
def encR (x:Nat × Nat):Array Value:=#[.agg #[.int .i64 (x.1:Int),.int .i64 (x.2:Int)]]
theorem J_below {α:Type} {J:List α→World→Prop} {B:Nat} (h:AbidesFrom B J) {pre:List α} {W W':World} (hJ:J pre W) (hb:Below W.heap.size W W'):J pre W':=
 h pre W W' none hJ ⟨hb.os,hb.tape,hb.output,hb.size,fun k hk _=>hb.block k hk⟩ (fun r e=>by cases e)
def RunsPost {α:Type} (all:List α) (J Jx:List α→World→Prop) (e:Ending) (W':World):Prop:=(∃v,e=.returned v)∧((∃ys,ys=all∧J ys W')∨(∃pre,pre <+: all∧Jx pre W'))
theorem runs1_in {α:Type} (f:α→Nat × Nat) (n:Nat) (hn1:1≤n) (l n₀ bo Bt Bs:Nat) (A:Option Addr) (nt kt:Nat) (text:List Int) (A':Option Addr) (ns ks:Nat) (ss:List Spn) (all:List α)
  (hall:all.map f=rns (cls ss) text 0 none) (hnt:text.length=nt) (hns:ss.length=ns) (hb1:nt≤1099511627776) (hb2:ns≤1099511627776) (hasc:Asc ss)
  (h1:Bt < n₀∧Bt≠bo) (h2:Bs < n₀∧Bs≠bo) (h3:text≠[]→Within n₀ bo A) (h4:ss≠[]→Within n₀ bo A')
  (J Jx:List α→World→Prop) (B:Nat) (hJ:AbidesFrom B J)
  (hY:∀pre x W,J pre W→pre.length < all.length→YieldAt Fence.wide (n - 1) Tryz.prog l (encR (f x)) W fun e W'=>
   (e=.returned (.bool true)∧J (pre++[x]) W'∧KeepX n₀ bo W W')∨(e=.returned (.bool false)∧Jx (pre++[x]) W'))
  (W:World) (hM:Mem Bt Bs A nt kt text A' ns ks ss W) (h0:J [] W) :
  CallsIn Fence.wide n Tryz.prog 149 #[.func (.yield l) #[] #[],.pointer (some ⟨Bt,0,none⟩),.pointer (some ⟨Bs,0,none⟩)] W (RunsPost all J Jx):=by
 subst hnt hns
 have HALL:=Lib.hid hall;have HA:=Lib.hid hasc;have HY:=Lib.hid hY;have HJ:=Lib.hid hJ
 have H3:=Lib.hid h3;have H4:=Lib.hid h4
 clear hall hasc hY hJ h3 h4
 have cbt:=hM.bt;have cbs:=hM.bs
 refine callsIn_of_wp Tryz.func149 rfl trivial ?_ rfl
 simp only [Tryz.ntmps149,List.size_toArray,List.length_cons,List.length_nil,Nat.reduceAdd,Nat.reduceSub,Array.replicate_succ,Array.replicate_zero,List.push_toArray,List.append_toArray,List.nil_append,List.cons_append]
 gi_wp2
 gi_loopw [4,10] (fun u i wr=>∃(k:Nat) (s:Option Nat) (pre rest:List α),k≤text.length∧i=.int .i64 k∧u=.int .i64 (stv s)∧(pre++rest=all∧rest.map f=rns (cls ss) (text.drop k) k s)∧(∀x,s=some x→x≤k)∧J pre wr∧Mem Bt Bs A text.length kt text A' ss.length ks ss wr)
  (fun _ i _=>text.length - (intOf i).toNat)
 case atStart=>exact ⟨0,none,[],all,Nat.zero_le _,rfl,rfl,⟨rfl,HALL.out⟩,(fun _ h=>by cases h),h0,hM⟩
 case round=>
  obtain ⟨k,s,pre,rest,hk,rfl,rfl,⟨hpre,hrest⟩,hs,hJ1,hM1⟩:=hrel
  have HP:=Lib.hid hpre;have HT:=Lib.hid hrest;clear hrest;have HS:=Lib.hid hs;clear hpre hs
  by_cases hlt:k < text.length
  ·obtain ⟨b,o,rfl,hcell⟩:=hM1.tx.at hlt
   have c1:=hcell k hlt
   have c2:=hM1.bs
   clear hcell
   have HR:=Lib.hid (rns_step (cls ss) text k hlt s)
   generalize text[k]=c at *
   gi_wp2_with fail
   refine ⟨trivial,(callsIn_wide.2 (class_any A' ss.length ks ss c wr hM1.sp rfl hb2 HA.out)).mono ?_⟩
   rintro e w1 ⟨rfl,hbw⟩
   have hM2:=hM1.below hbw
   have hJ2:=J_below HJ.out hJ1 hbw
   clear hM1 hJ1 hbw c1 c2
   by_cases hz:cls ss c=0
   ·have hzb:(cls ss c==0)=true:=by simpa using hz
    cases s with
    | none=>
     have HR':=Lib.hid (HR.out.trans (show _=_ from if_pos hz))
     clear HR hz
     generalize cls ss c=z at *
     simp only [stv]
     gi_wp2
     go_roundw
     case rel=>exact ⟨k+1,none,pre,rest,by omega,by go_num,rfl,⟨HP.out,HT.out.trans HR'.out⟩,(fun _ h=>by cases h),hJ2,hM2⟩
     case measure=>simp [intOf];omega
    | some s=>
     have HR':=Lib.hid (HR.out.trans (show _=_ from if_pos hz))
     clear HR hz
     generalize cls ss c=z at *
     simp only [stv]
     obtain ⟨x,rest',hx,hfx,hrest'⟩:∃x rest',rest=x::rest'∧f x=(s,k)∧rest'.map f=rns (cls ss) (text.drop (k+1)) (k+1) none:=by
      have:=HT.out.trans HR'.out
      cases rest with
      | nil=>cases this
      | cons x r=>simp only [List.map_cons,List.cons.injEq] at this;exact ⟨x,r,rfl,this.1,this.2⟩
     have HPX:=Lib.hid (show (pre++[x])++rest'=all by rw [←HP.out,hx];simp)
     have HTX:=Lib.hid hrest'
     have hlen:pre.length < all.length:=by rw [←HP.out,hx];simp
     have hy0:=HY.out pre x w1 hJ2 hlen
     rw [hfx] at hy0
     clear hx hfx hrest'
     unfold encR at hy0
     obtain ⟨fn,tmps,assign,body,hy,hR⟩:=hy0
     dsimp only at hy
     have HRR:=Lib.hid hR
     clear hR hlen
     gi_wp2
     refine HRR.out.mono ?_
     rintro e W3 (⟨rfl,hJ3,hk3⟩ | ⟨rfl,hJx3⟩)
     ·have hM3:=hM2.keepX hk3 h1 h2 H3.out H4.out
      clear hM2 hJ2 hy HRR
      gi_wp2
      go_roundw
      case rel=>exact ⟨k+1,none,pre++[x],rest',by omega,by go_num,rfl,⟨HPX.out,HTX.out⟩,(fun _ h=>by cases h),hJ3,hM3⟩
      case measure=>simp [intOf];omega
     ·gi_wp2
      refine bodyPost_ret (results_none rfl _ _ _) rfl ?_
      exact ⟨⟨_,rfl⟩,.inr ⟨pre++[x],⟨rest',HPX.out⟩,hJx3⟩⟩
   ·have hzb:(cls ss c==0)=false:=by simpa using hz
    cases s with
    | none=>
     have HR':=Lib.hid (HR.out.trans (show _=_ from if_neg hz))
     clear HR hz
     generalize cls ss c=z at *
     simp only [stv]
     gi_wp2
     go_roundw
     case rel=>exact ⟨k+1,some k,pre,rest,by omega,by go_num,rfl,⟨HP.out,HT.out.trans HR'.out⟩,(fun x h=>by cases h;omega),hJ2,hM2⟩
     case measure=>simp [intOf];omega
    | some s=>
     have HR':=Lib.hid (HR.out.trans (show _=_ from if_neg hz))
     clear HR hz
     generalize cls ss c=z at *
     simp only [stv]
     gi_wp2
     go_roundw
     case rel=>exact ⟨k+1,some s,pre,rest,by omega,by go_num,rfl,⟨HP.out,HT.out.trans HR'.out⟩,(fun x h=>by have:=HS.out x h;omega),hJ2,hM2⟩
     case measure=>simp [intOf];omega
  ·have HE:=Lib.hid (rns_end (cls ss) text k (by omega) s)
   have cb:=hM1.bt
   cases s with
   | none=>
    simp only [stv]
    gi_wp2
    go_end0
    have hr0:rest=[]:=by have:=HT.out.trans HE.out;simpa using this
    exact ⟨⟨_,rfl⟩,.inl ⟨pre,by rw [←HP.out,hr0];simp,hJ1⟩⟩
   | some s=>
    obtain rfl:k=text.length:=by omega
    simp only [stv]
    obtain ⟨x,hx,hfx⟩:∃x,rest=[x]∧f x=(s,text.length):=by
     have:=HT.out.trans HE.out
     cases rest with
     | nil=>cases this
     | cons x r=>simp only [List.map_cons,List.cons.injEq,List.map_eq_nil_iff] at this;exact ⟨x,by rw [this.2],this.1⟩
    have HPX:=Lib.hid (show pre++[x]=all by rw [←HP.out,hx])
    have hlen:pre.length < all.length:=by rw [←HPX.out];simp
    have hy0:=HY.out pre x wr hJ1 hlen
    rw [hfx] at hy0
    clear hx hfx
    unfold encR at hy0
    obtain ⟨fn,tmps,assign,body,hy,hR⟩:=hy0
    dsimp only at hy
    have HRR:=Lib.hid hR
    clear hR hlen
    gi_wp2
    refine HRR.out.mono ?_
    rintro e W3 (⟨rfl,hJ3,hk3⟩ | ⟨rfl,hJx3⟩)
    ·gi_wp2
     go_end0
     exact ⟨⟨_,rfl⟩,.inl ⟨pre++[x],HPX.out,hJ3⟩⟩
    ·gi_wp2
     go_end0
     exact ⟨⟨_,rfl⟩,.inr ⟨pre++[x],⟨[],by rw [List.append_nil];exact HPX.out⟩,hJx3⟩⟩
theorem runs_stops {α:Type} (f:α→Nat × Nat) (n:Nat) (hn1:1≤n) (n₀ bo Bt Bs:Nat) (A:Option Addr) (nt kt:Nat) (text:List Int) (A':Option Addr) (ns ks:Nat) (ss:List Spn) (all:List α) (w:World)
  (hall:all.map f=rns (cls ss) text 0 none) (hnt:text.length=nt) (hns:ss.length=ns) (hb1:nt≤1099511627776) (hb2:ns≤1099511627776) (hasc:Asc ss)
  (h1:Bt < n₀∧Bt≠bo) (h2:Bs < n₀∧Bs≠bo) (h3:text≠[]→Within n₀ bo A) (h4:ss≠[]→Within n₀ bo A') (hM:Mem Bt Bs A nt kt text A' ns ks ss w) :
  SeqStopsK Fence.wide n Tryz.prog 149 #[.pointer (some ⟨Bt,0,none⟩),.pointer (some ⟨Bs,0,none⟩)] (fun x=>encR (f x)) (KeepX n₀ bo) (fun ys=>ys=all) (fun pre=>pre <+: all) all.length w:=
 fun l J Jx W hW hJ _ hY h0=>runs1_in f n hn1 l n₀ bo Bt Bs A nt kt text A' ns ks ss all hall hnt hns hb1 hb2 hasc h1 h2 h3 h4 J Jx _ hJ hY W (hM.below hW) h0
theorem runs_any (A:Option Addr) (nt kt:Nat) (A':Option Addr) (ns ks:Nat) (w:World) :
  Calls Tryz.prog 120 #[.slice A' ns ks,.slice A nt kt] w fun e w'=>
   e=.returned (.func (.func 149) #[] #[.pointer (some ⟨w.heap.size+1,0,none⟩),.pointer (some ⟨w.heap.size,0,none⟩)])∧
   (w.alloc (.cells #[.slice A' ns ks] 22)).alloc (.cells #[.slice A nt kt] 37)=w':=by
 go_enter Tryz.func120,Tryz.ntmps120
 go_wp2
 go_ret
 exact ⟨rfl,rfl⟩
end Go.Proofs.YtijgbonhjcblcaaGreatDoor
namespace Go.Proofs.YtijgbonhjcblcaaGreatDoor
open Go.RowKit Go.Shelf
attribute [local go_sem] Oper.semAt_some
def flat2 (rs:List (Nat × Nat)):List Value:=rs.flatMap fun r=>[.int .i64 (r.1:Int),.int .i64 (r.2:Int)]
theorem flat2_snoc (rs:List (Nat × Nat)) (x:Nat × Nat):flat2 (rs++[x])=flat2 rs++[.int .i64 (x.1:Int),.int .i64 (x.2:Int)]:=by simp [flat2]
def RetRanges (rs:List (Nat × Nat)) (w:World) (e:Ending) (w':World):Prop:=∃A c,e=.returned (.slice A rs.length c)∧rs.length≤c∧Sl w' A (flat2 rs)∧Below w.heap.size w w'
theorem info_range:(Tryz.prog.info? 131).map (fun i=>(i.zero,i.size,i.bytes))=some (some (.agg #[.int .i64 0,.int .i64 0]),2,16):=by kernel_rfl
theorem keepX_of_below {n₀ bo:Nat} {W W':World} (h:Below n₀ W W'):KeepX n₀ bo W W':=⟨h.size,fun k hk _=>h.block k hk⟩
theorem Mem.lt_bt {Bt Bs:Nat} {A:Option Addr} {nt kt:Nat} {text:List Int} {A':Option Addr} {ns ks:Nat} {ss:List Spn} {W:World} (h:Mem Bt Bs A nt kt text A' ns ks ss W):Bt < W.heap.size:=World.block_lt_of_cell? W _ h.bt
theorem Mem.lt_bs {Bt Bs:Nat} {A:Option Addr} {nt kt:Nat} {text:List Int} {A':Option Addr} {ns ks:Nat} {ss:List Spn} {W:World} (h:Mem Bt Bs A nt kt text A' ns ks ss W):Bs < W.heap.size:=World.block_lt_of_cell? W _ h.bs
theorem Sl.lt {W:World} {A:Option Addr} {cs:List Value} (h:Sl W A cs) (hne:cs≠[]) (bo:Nat) (hbo:W.heap.size≤bo):Within W.heap.size bo A:=by
 intro b o hA
 obtain ⟨b',o',hA',hc⟩:=h hne
 rw [hA] at hA'
 injection hA' with hA'
 injection hA' with h1 h2
 subst h1;subst h2
 obtain ⟨x,r,rfl⟩:∃x r,cs=x::r:=by cases cs with | nil=>exact absurd rfl hne | cons x r=>exact ⟨x,r,rfl⟩
 have:=World.block_lt_of_cell? W _ (hc 0 x rfl)
 simp at this
 exact ⟨this,by omega⟩
theorem AppendSeq_any (Bt Bs:Nat) (A:Option Addr) (nt kt:Nat) (text:List Int) (A':Option Addr) (ns ks:Nat) (ss:List Spn) (all:List (Nat × Nat)) (w:World)
  (hall:rns (cls ss) text 0 none=all) (hnt:text.length=nt) (hns:ss.length=ns) (hb1:nt≤1048576) (hb2:ns≤1099511627776) (hasc:Asc ss) (hM:Mem Bt Bs A nt kt text A' ns ks ss w) :
  Calls Tryz.prog 161 #[.slice none 0 0,.func (.func 149) #[] #[.pointer (some ⟨Bt,0,none⟩),.pointer (some ⟨Bs,0,none⟩)]] w (RetRanges all w):=by
 have hlen:all.length≤1048576:=by rw [←hall];have:=rns_len0 (cls ss) text 0;omega
 obtain ⟨i0,hi0,hz0,hz1,hz2⟩:=info_parts info_range
 refine (callsIn_wide (n:=6)).1 ?_
 refine callsIn_of_wp_marks Tryz.func161 rfl trivial ?_ rfl
 simp only [Tryz.ntmps161,List.size_toArray,List.length_cons,List.length_nil,Nat.reduceAdd,Nat.reduceSub,Array.replicate_succ,Array.replicate_zero,List.push_toArray,List.append_toArray,List.nil_append,List.cons_append]
 gi_wp2
 have bS:=Boxed.new w 24 (.slice none 0 0)
 have hB0:Below w.heap.size w (w.alloc (.cells #[.slice none 0 0] 24)):=(Below.refl _ w).alloc (Nat.le_refl _) _
 have hsz:(w.alloc (.cells #[.slice none 0 0] 24)).heap.size=w.heap.size+1:=by simp
 have hM0:=hM.below hB0
 obtain ⟨W0,hW0⟩:∃W0,w.alloc (.cells #[.slice none 0 0] 24)=W0:=⟨_,rfl⟩
 rw [hW0] at bS hB0 hsz hM0 ⊢
 clear hW0
 refine wpIn_rangeFunc_ownH rfl (by omega) (gf:=149) (lb:=#[.pointer (some ⟨Bt,0,none⟩),.pointer (some ⟨Bs,0,none⟩)]) rfl trivial (enters_of Tryz.func149 (by kernel_rfl) rfl)
  (runs_stops (fun x=>x) 5 (by omega) w.heap.size w.heap.size Bt Bs A nt kt text A' ns ks ss all W0 (by rw [hall];simp) hnt hns (by omega) hb2 hasc ⟨hM.lt_bt,by have:=hM.lt_bt;omega⟩ ⟨hM.lt_bs,by have:=hM.lt_bs;omega⟩
   (fun hne=>Sl.lt hM.tx (by simpa using hne) _ (Nat.le_refl _)) (fun hne=>Sl.lt hM.sp (by cases ss with | nil=>exact absurd rfl hne | cons s r=>simp [flat3]) _ (Nat.le_refl _)) hM0)
  (fun h k=>h.trans k) (fun W l o o' hl h hc hw=>keepX_of_below (belowK_b (w:=W0) (by omega) W l o o' hl h hc hw)) (Below.refl _ _) (fun _=>rfl)
  (fun pre W=>(∃v,Boxed W w.heap.size 24 v∧W.ownsRow w.heap.size 131 2 v pre.length (flat2 pre)∧True)∧Below w.heap.size w W)
  (fun _ _ _=>False)
  (OwnFrom.and (Own.from (holdsRow_own w.heap.size w.heap.size 24 131 2 (fun pre:List (Nat × Nat)=>pre.length) flat2 (fun _ _=>True)) _) (ownFrom_below (Nat.le_refl _) (by omega)))
  (fun _ _ _ _ _ hs _ _=>hs)
  ⟨⟨_,bS,World.ownsRow_nil _ _ _ _,trivial⟩,hB0⟩
  (fun x a' W=>∃Bx,w.heap.size < Bx∧W.heap[Bx]?=some (.cells #[.int .i64 (x.1:Int),.int .i64 (x.2:Int)] 131 (0,0))∧a'={ tmps:=#[.slice none 0 0,.func (.func 149) #[] #[.pointer (some ⟨Bt,0,none⟩),.pointer (some ⟨Bs,0,none⟩)],.pointer (some ⟨w.heap.size,0,none⟩),undef,.slice none 0 0,.pointer (some ⟨Bx,0,none⟩),.func (.func 149) #[] #[.pointer (some ⟨Bt,0,none⟩),.pointer (some ⟨Bs,0,none⟩)],.agg #[.int .i64 (x.1:Int),.int .i64 (x.2:Int)],undef,undef,undef,undef,undef],defers:=[] })
  (fun x a' _ X Y row hs hg hr=>by
   obtain ⟨Bx,h1,h2,h3⟩:=hs
   refine ⟨Bx,h1,(hg.block Bx (Array.getElem?_eq_some_iff.1 h2).1 (fun e=>?_)).trans h2,h3⟩
   obtain ⟨_,o,ho,hc⟩:=hr Bx e.symm
   rw [h2] at ho;cases ho;cases hc)
  ?assign ?body ?done ?stop
 case assign=>
  rintro l pre x W K ⟨⟨v,bS1,hr1,_⟩,hB1⟩ hK
  unfold encR at *
  gi_wp2
  exact hK _ _ ((KeepsOthers.alloc _ _).from _) (keepX_of_below ((Below.refl _ W).alloc hB1.size _)) ⟨⟨v,bS1.alloc _,hr1.alloc _,trivial⟩,hB1.alloc hB1.size _⟩ ⟨W.heap.size,bS1.lt,heap_alloc_new W _,rfl⟩
 case body=>
  rintro l pre x a' W hl ⟨r,hr⟩ ⟨⟨v,bS1,hr1,_⟩,hB1⟩ ⟨Bx,hBx,bX,rfl⟩ hlt
  obtain ⟨Av,cv,rfl,hcv⟩:=own_form hr1
  have cS:=bS1.cell
  have fS:=bS1.frozen
  have x0:W.cell? ⟨Bx,0,none⟩=some (.int .i64 (x.1:Int)):=by rw [cell_of_row W Bx 0 _ _ (0,0) bX];rfl
  have x1:W.cell? ⟨Bx,1,none⟩=some (.int .i64 (x.2:Int)):=by rw [cell_of_row W Bx 1 _ _ (0,0) bX];rfl
  have hltS:=bS1.lt
  gi_wp2_with (gi_at_builtin;refine wpListIn_append_own _ rfl _ _ 24 rfl w.heap.size 131 i0 (.agg #[.int .i64 0,.int .i64 0]) 2 16 Tryz.underlying24 hi0 hz0 hz1 hz2 rfl (by decide) _ _ _ rfl (hr1.alloc _) ⟨W.heap.size,0,none⟩ 1 1 [.int .i64 (x.1:Int),.int .i64 (x.2:Int)] rfl rfl ?c1 (oneCell_ints [_,_]) (by unfold maxLen;omega) (by omega) (by have:=hB1.size;simp;omega) ?_)
  case c1=>
   intro j u hu
   match j,hu with
   | 0,hu=>simp at hu;subst hu;simp [Addr.add]
   | 1,hu=>simp at hu;subst hu;simp [Addr.add]
  ·intro v' w1 hown' hgrow _
   obtain ⟨Av',cv',rfl,hcv'⟩:=own_form hown'
   obtain ⟨hv1,hv2,hr2,hk2,hb2⟩:=bS1.appended (by decide) hr1 hB1.size (Nat.le_refl _) hown' hgrow
   have hc1:=hv1.cell
   have hf1:=hv1.frozen
   clear hown' hgrow cS fS x0 x1 hr1 bX bS1
   gi_wp2
   refine ⟨hk2.from _,keepX_of_below hb2,⟨_,hv2,?_,trivial⟩,hB1.trans hb2⟩
   rw [flat2_snoc,List.length_append]
   exact hr2
 case done=>
  rintro D ys W hD rfl ⟨⟨v,bS1,hr1,_⟩,hB1⟩ hK
  obtain ⟨Av,cv,rfl,hcv⟩:=own_form hr1
  have cS:=bS1.cell
  have HRow:=Lib.hid (ownsRow_putObj hr1 (.deferred none) hK rfl)
  have HBel:=Lib.hid (hB1.trans (belowK_b (w:=w) (Nat.le_refl _) W D _ (.deferred none) (by omega) hK rfl rfl))
  gi_wp2
  refine ⟨by simp,.inl ⟨_,_,rfl,run_takeDeferred hK,?_⟩⟩
  exact ⟨_,results_tmp rfl _ _ _,Av,cv,rfl,hcv,Sl.of_own HRow.out,HBel.out⟩
 case stop=>
  rintro D c pre W _ _ h _
  exact h.elim
theorem Collect_any (Bt Bs:Nat) (A:Option Addr) (nt kt:Nat) (text:List Int) (A':Option Addr) (ns ks:Nat) (ss:List Spn) (all:List (Nat × Nat)) (w:World)
  (hall:rns (cls ss) text 0 none=all) (hnt:text.length=nt) (hns:ss.length=ns) (hb1:nt≤1048576) (hb2:ns≤1099511627776) (hasc:Asc ss) (hM:Mem Bt Bs A nt kt text A' ns ks ss w) :
  Calls Tryz.prog 136 #[.func (.func 149) #[] #[.pointer (some ⟨Bt,0,none⟩),.pointer (some ⟨Bs,0,none⟩)]] w (RetRanges all w):=by
 have C:=Lib.hid (AppendSeq_any Bt Bs A nt kt text A' ns ks ss all w hall hnt hns hb1 hb2 hasc hM)
 clear hall hnt hns hasc hM
 go_enter Tryz.func136,Tryz.ntmps136
 go_wp2_with fail
 refine C.out.mono ?_
 rintro e w1 ⟨A1,c1,rfl,hc1,hA1,hb1⟩
 go_wp2_with fail
 go_ret
 exact ⟨A1,c1,rfl,hc1,hA1,hb1⟩
theorem Runs_any (A':Option Addr) (ns ks:Nat) (ss:List Spn) (A:Option Addr) (nt kt:Nat) (text:List Int) (w:World) (hS:Spans w A' ss) (hT:Ints w A text)
  (hnt:text.length=nt) (hns:ss.length=ns) (hb1:nt≤1048576) (hb2:ns≤1099511627776) (hL:Laid w) :
  Calls Tryz.prog 94 #[.slice A' ns ks,.slice A nt kt] w (RetRanges (rns (clz ss) text 0 none) w):=by
 have hle:=us_len ss
 rw [hns] at hle
 have U:=Lib.hid (usable_any A' ns ks ss w hS hns hb2 hL)
 have hasc:=Lib.hid (us_asc ss)
 have hcl:clz ss=cls (us ss):=rfl
 rw [hcl]
 clear hS hL hns hcl
 generalize us ss=ts at *
 go_enter Tryz.func94,Tryz.ntmps94
 go_wp2_with fail
 refine U.out.mono ?_
 rintro e w1 ⟨A1,k1,rfl,hA1,hb3⟩
 have hT1:=hT.below hb3
 clear hT U
 go_wp2_with fail
 refine (runs_any A nt kt A1 ts.length k1 w1).mono ?_
 rintro e w2 ⟨rfl,hw2⟩
 have hM:Mem (w1.heap.size+1) w1.heap.size A nt kt text A1 ts.length k1 ts w2:=by
  rw [←hw2]
  exact ⟨by simp,by simp,Sl.alloc (Sl.alloc hT1 _) _,Sl.alloc (Sl.alloc hA1 _) _⟩
 have hb4:Below w.heap.size w w2:=by
  rw [←hw2]
  exact (hb3.alloc hb3.size _).alloc (by have:=hb3.size;simp;omega) _
 have HM:=Lib.hid hM
 clear hw2 hM hT1 hA1 hb3
 go_wp2_with fail
 refine (Collect_any (w1.heap.size+1) w1.heap.size A nt kt text A1 ts.length k1 ts _ w2 rfl hnt rfl hb1 (by omega) hasc.out HM.out).mono ?_
 rintro e w3 ⟨A3,c3,rfl,hc3,hA3,hb5⟩
 go_wp2_with fail
 go_ret
 exact ⟨A3,c3,rfl,hc3,hA3,hb4.trans (hb5.mono hb4.size)⟩
end Go.Proofs.YtijgbonhjcblcaaGreatDoor
namespace Go.Proofs.YtijgbonhjcblcaaGreatDoor
open Go.RowKit Go.Maps Go.WideMaps
theorem hasR_no {rs:List Rg} {c:Int} (h:inR 0 1114111 c=false):hasR rs c=false:=by unfold hasR;rw [h];rfl
theorem hasR_yes {rs:List Rg} {c:Int} (h:inR 0 1114111 c=true) {k:Nat} (hk:k < rs.length) (h2:inR rs[k].lo rs[k].hi c=true):hasR rs c=true:=by unfold hasR;rw [h,Bool.true_and];exact anyT hk h2
theorem hasR_not {rs:List Rg} {c:Int} (h2:∀t,(ht:t < rs.length)→inR rs[t].lo rs[t].hi c=false):hasR rs c=false:=by unfold hasR;rw [anyF h2,Bool.and_false]
theorem cpHas_any (A:Option Addr) (n a:Nat) (rs:List Rg) (c:Int) (w:World) (hA:Rgs w A rs) (hn:rs.length=n) (hb:n≤1048576) :
  Calls Tryz.prog 163 #[.agg #[.slice A n a],.int .i64 c] w (RetBool (hasR rs c) w):=by
 subst hn
 have H0:=Lib.hid (hasR_no (rs:=rs) (c:=c))
 have H1:=Lib.hid (fun h k hk h2=>hasR_yes (rs:=rs) (c:=c) h (k:=k) hk h2)
 have H2:=Lib.hid (hasR_not (rs:=rs) (c:=c))
 generalize hasR rs c=R at *
 have B0:Below w.heap.size w (w.alloc (.cells #[.slice A rs.length a] 26)):=(Below.refl _ _).alloc (Nat.le_refl _) _
 have k0:(w.alloc (.cells #[.slice A rs.length a] 26)).cell? ⟨w.heap.size,0,none⟩=some (.slice A rs.length a):=by simp
 have s0:(w.alloc (.cells #[.slice A rs.length a] 26)).heap.size=w.heap.size+1:=by simp
 have W0E:∃W0,(w.alloc (.cells #[.slice A rs.length a] 26))=W0:=⟨_,rfl⟩
 have HA:=Lib.hid hA
 clear hA
 cases hv:inR 0 1114111 c with
 | false=>
  obtain rfl:=H0.out hv
  go_enter Tryz.func163,Tryz.ntmps163
  go_wp2_with (go_at_call 124;refine (cpValid_any c _).mono ?_;rw [hv];rintro e w' ⟨rfl,rfl⟩)
  go_ret
  exact ⟨rfl,B0⟩
 | true=>
  have H1:=Lib.hid (H1.out hv)
  go_enter Tryz.func163,Tryz.ntmps163
  go_wp2_with (go_at_call 124;refine (cpValid_any c _).mono ?_;rw [hv];rintro e w' ⟨rfl,rfl⟩)
  obtain ⟨W0,hW0⟩:=W0E
  rw [hW0] at B0 k0 s0 ⊢
  clear hW0
  have HA0:=Lib.hid (HA.out.below B0)
  clear HA
  go_loopw [13] (fun u wr=>∃i:Nat,i≤rs.length∧u=.int .i64 i∧(∀t,(ht:t < rs.length)→t < i→inR rs[t].lo rs[t].hi c=false)∧Below W0.heap.size W0 wr) (fun u _=>rs.length - (intOf u).toNat)
  case atStart=>exact ⟨0,Nat.zero_le _,rfl,fun t _ h=>by omega,Below.refl _ _⟩
  case round=>
   obtain ⟨i,hi,rfl,hno,hbr⟩:=hrel
   have HNO:=Lib.hid hno
   clear hno
   by_cases hlt:i < rs.length
   ·obtain ⟨b1,o1,rfl,hbl,hcell⟩:=(HA0.out.below hbr).at hlt
    obtain ⟨c1,c2⟩:=hcell i hlt
    have HY:=Lib.hid (fun h=>H1.out i hlt h)
    have HN:=Lib.hid (fun h=>all_up (P:=fun r:Rg=>inR r.lo r.hi c=false) hlt HNO.out h)
    clear hcell
    generalize rs[i]=ri at *
    obtain ⟨rlo,rhi⟩:=ri
    dsimp only at *
    by_cases h1:rlo≤c
    ·have q1:decide (rlo≤c)=true:=by simpa using h1
     by_cases h2:c≤rhi
     ·have q2:decide (c≤rhi)=true:=by simpa using h2
      obtain rfl:=HY.out (inR_true h1 h2)
      clear HY HN H1 H2
      go_wp2_with fail
      go_ret
      exact ⟨rfl,B0.trans ((hbr.alloc hbr.size _).mono B0.size)⟩
     ·have q2:decide (c≤rhi)=false:=by simpa using h2
      have HQ:=Lib.hid (HN.out (inR_hi (by omega)))
      clear HY HN
      go_wp2_with fail
      go_roundw
      case rel=>exact ⟨i+1,by omega,by go_num,HQ.out,hbr.alloc hbr.size _⟩
      case measure=>simp [intOf];omega
    ·have q1:decide (rlo≤c)=false:=by simpa using h1
     have HQ:=Lib.hid (HN.out (inR_lo (by omega)))
     clear HY HN
     go_wp2_with fail
     go_roundw
     case rel=>exact ⟨i+1,by omega,by go_num,HQ.out,hbr.alloc hbr.size _⟩
     case measure=>simp [intOf];omega
   ·obtain rfl:=H2.out (fun t ht=>HNO.out t ht (by omega))
    go_wp2_with fail
    go_ret
    exact ⟨rfl,B0.trans (hbr.mono B0.size)⟩
theorem refHas_any (A:Option Addr) (n a:Nat) (rs:List Rg) (c:Int) (w:World) (hA:Rgs w A rs) (hn:rs.length=n) (hb:n≤1048576) :
  Calls Tryz.prog 156 #[.agg #[.slice A n a],.int .i64 c] w (RetBool (hasR rs c) w):=by
 subst hn
 have H0:=Lib.hid (hasR_no (rs:=rs) (c:=c))
 have H1:=Lib.hid (fun h k hk h2=>hasR_yes (rs:=rs) (c:=c) h (k:=k) hk h2)
 have H2:=Lib.hid (hasR_not (rs:=rs) (c:=c))
 generalize hasR rs c=R at *
 have B0:Below w.heap.size w (w.alloc (.cells #[.slice A rs.length a] 26)):=(Below.refl _ _).alloc (Nat.le_refl _) _
 have k0:(w.alloc (.cells #[.slice A rs.length a] 26)).cell? ⟨w.heap.size,0,none⟩=some (.slice A rs.length a):=by simp
 have s0:(w.alloc (.cells #[.slice A rs.length a] 26)).heap.size=w.heap.size+1:=by simp
 have W0E:∃W0,(w.alloc (.cells #[.slice A rs.length a] 26))=W0:=⟨_,rfl⟩
 have HA:=Lib.hid hA
 clear hA
 go_enter Tryz.func156,Tryz.ntmps156
 go_wp2_with fail
 obtain ⟨W0,hW0⟩:=W0E
 rw [hW0] at B0 k0 s0 ⊢
 clear hW0
 have HA0:=Lib.hid (HA.out.below B0)
 clear HA
 cases hv:inR 0 1114111 c with
 | false=>
  obtain rfl:=H0.out hv
  go_loop [5] (fun u=>∃i:Nat,i≤rs.length∧u=.int .i64 i) (fun u=>rs.length - (intOf u).toNat)
  case atStart=>exact ⟨0,Nat.zero_le _,rfl⟩
  case round=>
   obtain ⟨i,hi,rfl⟩:=hrel
   by_cases hlt:i < rs.length
   ·go_wp2_with (go_at_call 80;refine (refValid_any c _).mono ?_;rw [hv];rintro e w' ⟨rfl,rfl⟩)
    go_round
    case rel=>exact ⟨i+1,by omega,by go_num⟩
    case measure=>simp [intOf];omega
   ·go_wp2_with fail
    go_ret
    exact ⟨rfl,B0⟩
 | true=>
  have H1:=Lib.hid (H1.out hv)
  go_loop [5] (fun u=>∃i:Nat,i≤rs.length∧u=.int .i64 i∧(∀t,(ht:t < rs.length)→t < i→inR rs[t].lo rs[t].hi c=false)) (fun u=>rs.length - (intOf u).toNat)
  case atStart=>exact ⟨0,Nat.zero_le _,rfl,fun t _ h=>by omega⟩
  case round=>
   obtain ⟨i,hi,rfl,hno⟩:=hrel
   have HNO:=Lib.hid hno
   clear hno
   by_cases hlt:i < rs.length
   ·obtain ⟨b1,o1,rfl,hbl,hcell⟩:=HA0.out.at hlt
    obtain ⟨c1,c2⟩:=hcell i hlt
    have HY:=Lib.hid (fun h=>H1.out i hlt h)
    have HN:=Lib.hid (fun h=>all_up (P:=fun r:Rg=>inR r.lo r.hi c=false) hlt HNO.out h)
    clear hcell
    generalize rs[i]=ri at *
    obtain ⟨rlo,rhi⟩:=ri
    dsimp only at *
    by_cases h1:rlo≤c
    ·have q1:decide (rlo≤c)=true:=by simpa using h1
     by_cases h2:c≤rhi
     ·have q2:decide (c≤rhi)=true:=by simpa using h2
      obtain rfl:=HY.out (inR_true h1 h2)
      clear HY HN H1 H2
      go_wp2_with (go_at_call 80;refine (refValid_any c _).mono ?_;rw [hv];rintro e w' ⟨rfl,rfl⟩)
      go_ret
      exact ⟨rfl,B0⟩
     ·have q2:decide (c≤rhi)=false:=by simpa using h2
      have HQ:=Lib.hid (HN.out (inR_hi (by omega)))
      clear HY HN
      go_wp2_with (go_at_call 80;refine (refValid_any c _).mono ?_;rw [hv];rintro e w' ⟨rfl,rfl⟩)
      go_round
      case rel=>exact ⟨i+1,by omega,by go_num,HQ.out⟩
      case measure=>simp [intOf];omega
    ·have q1:decide (rlo≤c)=false:=by simpa using h1
     have HQ:=Lib.hid (HN.out (inR_lo (by omega)))
     clear HY HN
     go_wp2_with (go_at_call 80;refine (refValid_any c _).mono ?_;rw [hv];rintro e w' ⟨rfl,rfl⟩)
     go_round
     case rel=>exact ⟨i+1,by omega,by go_num,HQ.out⟩
     case measure=>simp [intOf];omega
   ·obtain rfl:=H2.out (fun t ht=>HNO.out t ht (by omega))
    go_wp2_with fail
    go_ret
    exact ⟨rfl,B0⟩
theorem refSmallS_any (A:Option Addr) (n a:Nat) (w:World) (hb:n≤9223372036854775807) :
  Calls Tryz.prog 60 #[.agg #[.slice A n a]] w (RetBool (decide (n≤12)) w):=by
 go_enter Tryz.func60,Tryz.ntmps60
 go_wp2_with fail
 go_ret
 exact ⟨ret_bool (by rw [Bool.eq_iff_iff];simp;try omega),(Below.refl _ _).alloc (Nat.le_refl _) _⟩
theorem keepsOr_any (x y:Bool) (w:World):Calls Tryz.prog 155 #[.int .i64 1,.bool x,.bool y] w (fun e w'=>e=.returned (.bool (x || y))∧w=w'):=by
 cases x <;> cases y
 all_goals
  go_enter Tryz.func155,Tryz.ntmps155
  go_wp2_with fail
  go_ret
  exact ⟨rfl,rfl⟩
def anyGe (l:List Int) (n:Int):Bool:=l.any (fun x=>decide (n≤x))
theorem anyGe_take {l:List Int} {n:Int} {k:Nat} (hk:k < l.length):anyGe (l.take (k+1)) n=(anyGe (l.take k) n || decide (n≤l[k])):=by
 unfold anyGe;rw [List.take_succ_eq_append_getElem hk,List.any_append];simp
theorem placeL_snocY:∀{l:List Int} {n x:Int},anyGe l n=true→placeL (l++[x]) n=placeL l n++[x]
 | y::r,n,x,h=>by
  simp only [List.cons_append,placeL]
  split
  ·split <;> rfl
  ·next g=>
   have:anyGe r n=true:=by
    unfold anyGe at h ⊢
    rw [List.any_cons,Bool.or_eq_true] at h
    rcases h with h | h
    ·exact absurd (by simpa using h) g
    ·exact h
   rw [placeL_snocY this];rfl
theorem placeL_no:∀{l:List Int} {n:Int},anyGe l n=false→placeL l n=l++[n]
 | [],_,_=>rfl
 | y::r,n,h=>by
  unfold anyGe at h
  rw [List.any_cons,Bool.or_eq_false_iff] at h
  have h1:¬n≤y:=by simpa using h.1
  simp only [placeL]
  rw [if_neg h1,placeL_no (show anyGe r n=false from h.2)]
  rfl
theorem placeL_snocN:∀{l:List Int} {n x:Int},anyGe l n=false→n≤x→placeL (l++[x]) n=l++(if n < x then [n,x] else [x])
 | [],n,x,_,hx=>by
  simp only [List.nil_append,placeL,hx,if_true]
 | y::r,n,x,h,hx=>by
  unfold anyGe at h
  rw [List.any_cons,Bool.or_eq_false_iff] at h
  have h1:¬n≤y:=by simpa using h.1
  simp only [List.cons_append,placeL]
  rw [if_neg h1,placeL_snocN (show anyGe r n=false from h.2) hx]
def plk (l:List Int) (n:Int) (k:Nat):List Int:=if anyGe (l.take k) n=true then placeL (l.take k) n else l.take k
section
variable {l:List Int} {n:Int} {k:Nat}
theorem plk_yes (hk:k < l.length) (h:anyGe (l.take k) n=true):plk l n (k+1)=plk l n k++[l[k]]:=by
 unfold plk
 have e:=anyGe_take (n:=n) hk
 rw [h,Bool.true_or] at e
 rw [if_pos e,if_pos h,List.take_succ_eq_append_getElem hk,placeL_snocY h]
theorem plk_gt (hk:k < l.length) (h:anyGe (l.take k) n=false) (hx:n < l[k]):plk l n (k+1)=plk l n k++[n]++[l[k]]:=by
 unfold plk
 have e:=anyGe_take (n:=n) hk
 rw [h,Bool.false_or,show decide (n≤l[k])=true by simp;omega] at e
 rw [if_pos e,if_neg (by simp [h]),List.take_succ_eq_append_getElem hk,placeL_snocN h (by omega),if_pos hx]
 simp
theorem plk_eq (hk:k < l.length) (h:anyGe (l.take k) n=false) (hx:n=l[k]):plk l n (k+1)=plk l n k++[l[k]]:=by
 unfold plk
 have e:=anyGe_take (n:=n) hk
 rw [h,Bool.false_or,show decide (n≤l[k])=true by simp;omega] at e
 rw [if_pos e,if_neg (by simp [h]),List.take_succ_eq_append_getElem hk,placeL_snocN h (by omega),if_neg (by omega)]
theorem plk_no (hk:k < l.length) (h:anyGe (l.take k) n=false) (hx:¬n≤l[k]):plk l n (k+1)=plk l n k++[l[k]]:=by
 unfold plk
 have e:=anyGe_take (n:=n) hk
 rw [h,Bool.false_or,show decide (n≤l[k])=false by simp;omega] at e
 rw [if_neg (by simp [e]),if_neg (by simp [h]),List.take_succ_eq_append_getElem hk]
theorem plk_len:(plk l n k).length≤k+1:=by
 have:∀(s:List Int),(placeL s n).length≤s.length+1:=by
  intro s
  induction s with
  | nil=>simp [placeL]
  | cons y r ih=>
   simp only [placeL]
   split
   ·split <;> simp
   ·simp only [List.length_cons];omega
 unfold plk
 split
 ·have h:=this (l.take k)
  have:=List.length_take_le k l
  omega
 ·have:=List.length_take_le k l
  omega
theorem plk_endY (h:anyGe l n=true):plk l n l.length=placeL l n:=by unfold plk;rw [List.take_length,if_pos h]
theorem plk_endN (h:anyGe l n=false):plk l n l.length++[n]=placeL l n:=by unfold plk;rw [List.take_length,if_neg (by simp [h]),placeL_no h]
end
theorem placeL_len (l:List Int) (n:Int):(placeL l n).length≤l.length+1:=by
 induction l with
 | nil=>simp [placeL]
 | cons y r ih=>
  simp only [placeL]
  split
  ·split <;> simp
  ·simp only [List.length_cons];omega
theorem place_any (A:Option Addr) (m a:Nat) (l:List Int) (n:Int) (w:World) (hA:Ints w A l) (hm:l.length=m) (hb:m≤1048576) :
  Calls Tryz.prog 167 #[.slice A m a,.int .i64 n] w (RetOwnI (placeL l n) w):=by
 subst hm
 have HA:=Lib.hid hA
 have HN:=Lib.hid (show w.ownsRow w.heap.size 3 1 (.slice none 0 0) 0 ([]:List Value) from World.ownsRow_nil _ _ _ _)
 have EY:=Lib.hid (plk_endY (l:=l) (n:=n))
 have EN:=Lib.hid (plk_endN (l:=l) (n:=n))
 have P0:=Lib.hid (show plk l n 0=[] by simp [plk,anyGe])
 clear hA
 generalize placeL l n=R at *
 go_enter Tryz.func167,Tryz.ntmps167
 go_wp2_with fail
 go_loopw [5,6,7] (fun v d u wr=>∃(k:Nat) (S:Option Addr) (c:Nat),k≤l.length∧u=.int .i64 k∧d=.bool (anyGe (l.take k) n)∧v=.slice S (plk l n k).length c∧wr.ownsRow w.heap.size 3 1 (.slice S (plk l n k).length c) (plk l n k).length ((plk l n k).map (Value.int .i64))∧Below w.heap.size w wr) (fun _ _ u _=>l.length - (intOf u).toNat)
 case atStart=>exact ⟨0,none,0,Nat.zero_le _,rfl,by simp [anyGe],by rw [P0.out];rfl,by rw [P0.out];exact HN.out,Below.refl _ _⟩
 case round=>
  obtain ⟨k,S,c,hk,rfl,rfl,rfl,hown,hbr⟩:=hrel
  have HOWN:=Lib.hid hown
  clear hown HN P0
  have hpl:(plk l n k).length≤k+1:=plk_len
  by_cases hlt:k < l.length
  ·obtain ⟨b1,o1,rfl,hc⟩:=HA.out.at hlt
   have c0:=hc k hlt
   have hbl:b1 < w.heap.size:=World.block_lt_of_cell? w _ c0
   have c1:=(hbr.cell (p:=⟨b1,o1+k,none⟩) hbl).trans c0
   have C0:=Lib.hid c0
   clear c0
   have GT:=Lib.hid (anyGe_take (n:=n) hlt)
   have QY:=Lib.hid (plk_yes (n:=n) hlt)
   have QG:=Lib.hid (plk_gt (n:=n) hlt)
   have QE:=Lib.hid (plk_eq (n:=n) hlt)
   have QN:=Lib.hid (plk_no (n:=n) hlt)
   clear hc
   generalize l[k]=x at *
   generalize hL0:plk l n k=L0 at *
   clear hL0
   have Bp:Below wr.heap.size wr (wr.alloc (.cells #[.int .i64 x] 3)):=(Below.refl _ _).alloc (Nat.le_refl _) _
   have HOP:=Lib.hid (own_keep HOWN.out Bp)
   have szp:w.heap.size≤(wr.alloc (.cells #[.int .i64 x] 3)).heap.size:=Nat.le_trans hbr.size Bp.size
   have hb9:=hbr.trans (Bp.mono hbr.size)
   cases hg:anyGe (l.take k) n with
   | true=>
    have HQ:=Lib.hid (QY.out hg)
    have gt:=GT.out
    rw [hg,Bool.true_or] at gt
    have HGT:=Lib.hid gt
    clear GT QY QG QE QN hg gt Bp
    go_wp2_with (at_builtin;refine wpList_app _ _ 37 3 (.int .i64 0) 1 8 rfl rfl Tryz.underlying37 info_int rfl (by decide) (by decide) rfl HOP.out rfl (Ints_new wr [x] 3 rfl) rfl (oneCell_ints [x]) (by omega) szp ?_;intro A7 c7 w7 hown7 hc7 hb7 _ _;have HO7:=Lib.hid hown7;clear hown7)
    go_roundw
    case rel=>exact ⟨k+1,A7,c7,by omega,by go_num,by rw [HGT.out],by rw [HQ.out];simp,by rw [HQ.out];simpa using HO7.out,hb9.trans hb7⟩
    case measure=>simp [intOf];omega
   | false=>
    by_cases h1:n < x
    ·have HQ:=Lib.hid (QG.out hg h1)
     have gt:=GT.out
     rw [hg,Bool.false_or,show decide (n≤x)=true by simp;omega] at gt
     have HGT:=Lib.hid gt
     have q1:decide (n≤x)=true:=by simp;omega
     have q2:decide (n < x)=true:=by simpa using h1
     clear GT QY QG QE QN hg gt HOP szp hb9 Bp
     have Bn:Below wr.heap.size wr (wr.alloc (.cells #[.int .i64 n] 3)):=(Below.refl _ _).alloc (Nat.le_refl _) _
     have HOP:=Lib.hid (own_keep HOWN.out Bn)
     have szp:w.heap.size≤(wr.alloc (.cells #[.int .i64 n] 3)).heap.size:=Nat.le_trans hbr.size Bn.size
     have hb9:=hbr.trans (Bn.mono hbr.size)
     go_wp2_with (first
      | (at_builtin;refine wpList_app _ _ 37 3 (.int .i64 0) 1 8 rfl rfl Tryz.underlying37 info_int rfl (by decide) (by decide) rfl HOP.out rfl (Ints_new wr [n] 3 rfl) rfl (oneCell_ints [n]) (by omega) szp ?_;clear HOP;intro A7 c7 w7 hown7 hc7 hb7 hgr7 _;have hbw7:=hb9.trans hb7;have HO7:=Lib.hid (own_keep hown7 ((Below.refl w7.heap.size w7).alloc (Nat.le_refl _) (.cells #[.int .i64 x] 3)));have c17:=(hbw7.cell (p:=⟨b1,o1+k,none⟩) hbl).trans C0.out;have sz7:=hbw7.size;clear hown7 c1)
      | (at_builtin;refine wpList_app _ _ 37 3 (.int .i64 0) 1 8 rfl rfl Tryz.underlying37 info_int rfl (by decide) (by decide) rfl HO7.out rfl (Ints_new w7 [x] 3 rfl) rfl (oneCell_ints [x]) (by omega) (by simp;omega) ?_;intro A8 c8 w8 hown8 hc8 hb8 hgr8 _;have HO8:=Lib.hid hown8;clear hown8))
     go_roundw
     case rel=>exact ⟨k+1,A8,c8,by omega,by go_num,by rw [HGT.out],by rw [HQ.out];simp,by rw [HQ.out];simpa using HO8.out,(hbw7.alloc hbw7.size _).trans hb8⟩
     case measure=>simp [intOf];omega
    ·by_cases h2:n=x
     ·have HQ:=Lib.hid (QE.out hg h2)
      have gt:=GT.out
      rw [hg,Bool.false_or,show decide (n≤x)=true by simp;omega] at gt
      have HGT:=Lib.hid gt
      have q1:decide (n≤x)=true:=by simp;omega
      have q2:decide (n < x)=false:=by simpa using h1
      clear GT QY QG QE QN hg gt Bp
      subst h2
      go_wp2_with (at_builtin;refine wpList_app _ _ 37 3 (.int .i64 0) 1 8 rfl rfl Tryz.underlying37 info_int rfl (by decide) (by decide) rfl HOP.out rfl (Ints_new wr [n] 3 rfl) rfl (oneCell_ints [n]) (by omega) szp ?_;intro A7 c7 w7 hown7 hc7 hb7 _ _;have HO7:=Lib.hid hown7;clear hown7)
      go_roundw
      case rel=>exact ⟨k+1,A7,c7,by omega,by go_num,by rw [HGT.out],by rw [HQ.out];simp,by rw [HQ.out];simpa using HO7.out,hb9.trans hb7⟩
      case measure=>simp [intOf];omega
     ·have HQ:=Lib.hid (QN.out hg (by omega))
      have gt:=GT.out
      rw [hg,Bool.false_or,show decide (n≤x)=false by simp;omega] at gt
      have HGT:=Lib.hid gt
      have q1:decide (n≤x)=false:=by simp;omega
      clear GT QY QG QE QN hg gt Bp
      go_wp2_with (at_builtin;refine wpList_app _ _ 37 3 (.int .i64 0) 1 8 rfl rfl Tryz.underlying37 info_int rfl (by decide) (by decide) rfl HOP.out rfl (Ints_new wr [x] 3 rfl) rfl (oneCell_ints [x]) (by omega) szp ?_;intro A7 c7 w7 hown7 hc7 hb7 _ _;have HO7:=Lib.hid hown7;clear hown7)
      go_roundw
      case rel=>exact ⟨k+1,A7,c7,by omega,by go_num,by rw [HGT.out],by rw [HQ.out];simp,by rw [HQ.out];simpa using HO7.out,hb9.trans hb7⟩
      case measure=>simp [intOf];omega
  ·obtain rfl:k=l.length:=by omega
   rw [List.take_length]
   cases hg:anyGe l n with
   | true=>
    have e:=EY.out hg
    rw [e] at HOWN ⊢
    clear EY EN e hg
    go_wp2_with fail
    go_ret
    exact ⟨S,c,rfl,HOWN.out,hbr⟩
   | false=>
    have HE:=Lib.hid (EN.out hg)
    clear EY EN hg
    generalize hL0:plk l n l.length=L0 at *
    clear hL0
    have Bn:Below wr.heap.size wr (wr.alloc (.cells #[.int .i64 n] 3)):=(Below.refl _ _).alloc (Nat.le_refl _) _
    have HOP:=Lib.hid (own_keep HOWN.out Bn)
    have szp:w.heap.size≤(wr.alloc (.cells #[.int .i64 n] 3)).heap.size:=Nat.le_trans hbr.size Bn.size
    have hb9:=hbr.trans (Bn.mono hbr.size)
    go_wp2_with (at_builtin;refine wpList_app _ _ 37 3 (.int .i64 0) 1 8 rfl rfl Tryz.underlying37 info_int rfl (by decide) (by decide) rfl HOP.out rfl (Ints_new wr [n] 3 rfl) rfl (oneCell_ints [n]) (by omega) szp ?_;intro A7 c7 w7 hown7 hc7 hb7 _ _;have HO7:=Lib.hid hown7;clear hown7)
    go_ret
    refine ⟨A7,c7,?_,?_,hb9.trans hb7⟩
    ·rw [←HE.out];simp
    ·rw [←HE.out];simpa using HO7.out
end Go.Proofs.YtijgbonhjcblcaaGreatDoor
namespace Go.Proofs.YtijgbonhjcblcaaGreatDoor
open Go.RowKit
variable {P:Program} {w:World}
theorem step_app {ops:Array Oper} {o:Oper} {a:Act} {K:Act→World→Prop} {Q:Exit→Act→World→Prop} {E:Prop} (hgd:o.guard=none) (s x:Operand) (t e:TypeId) (z:Value) (size bytes:Nat)
  (ho:o.op=.call { callee:=.builtin .append,args:=#[s,x],argTypes:=#[t,t] }) (ht:P.underlying t=some (.slice e))
  (hinfo:(P.info? e).map (fun i=>(i.zero,i.size,i.bytes))=some (some z,size,bytes)) (hzs:z.cells.size=size) (hsz:0 < size) (hby:0 < bytes)
  {base:Nat} {A:Option Addr} {n c:Nat} {xs:List Value} (hs:a.eval s=.slice A n c) (hown:w.ownsRow base e size (.slice A n c) n xs)
  {A':Option Addr} {m c':Nat} {news:List Value} (hx:a.eval x=.slice A' m c') (hr:Sl w A' news) (hl:news.length=m*size) (h1:∀u ∈ news,u.oneCell'=true)
  (hlim:(n+m)*bytes≤140737488355328) (hbase:base≤w.heap.size)
  (h:∀B k w',w'.ownsRow base e size (.slice B (n+m) k) (n+m) (xs++news)→n+m≤k→Below base w w'→w.grownBy w' (Value.ownBlock (.slice A n c))→(B=A∨B=some ⟨w.heap.size,0,none⟩)→
   K (a.put o.dst (.slice B (n+m) k)) w'):if Region.wanted o (yielded ops a.tmps)=true then Oper.wp P o a w K Q else E:=by
 have hw:Region.wanted o (yielded ops a.tmps)=true:=by simp [Region.wanted,hgd]
 rw [if_pos hw]
 obtain ⟨B,k,w',hrun,h2,h3,h4,h5,h6⟩:=run_app (P:=P) t o.type e z size bytes ht hinfo hzs hsz hby hown (c':=c') hr hl h1 hlim hbase
 unfold Oper.wp execOp
 simp only [ho,resolve,invoke,builtin,Sem.run_bind,Sem.run_pure,Result.andThen_ok,List.map_toArray,List.map_cons,List.map_nil,hs,hx,hrun]
 exact h B k w' h2 h3 h4 h5 h6
end Go.Proofs.YtijgbonhjcblcaaGreatDoor
