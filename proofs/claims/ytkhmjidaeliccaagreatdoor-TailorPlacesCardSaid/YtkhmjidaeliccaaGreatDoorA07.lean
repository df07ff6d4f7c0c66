/- Texts that are merged into one file: SetC, SetD, SetE, SetF, DCheck. -/
import Derived.Test.YtkhmjidaeliccaaGreatDoorA04
import Derived.Test.YtkhmjidaeliccaaGreatDoorA05
import Derived.Test.YtkhmjidaeliccaaGreatDoorA06
import Derived.Deep.RegionLaw
import Derived.Laws.OwnMore
import Derived.Laws.StructEq
import Derived.BigQuiet
set_option maxRecDepth 100000
set_option maxHeartbeats 51200000
namespace Go.Proofs.YtkhmjidaeliccaaGreatDoor
open Go.RowKit Go.Maps Go.WideMaps
def RetIs (l:List Int) (w:World) (e:Ending) (w':World):Prop:=∃E d,e=.returned (.slice E l.length d)∧l.length≤d∧Ints w' E l∧Below w.heap.size w w'
theorem RetOwnI.is {l:List Int} {w:World} {e:Ending} {w':World} (h:RetOwnI l w e w'):RetIs l w e w':=by
 obtain ⟨A,c,h1,h2,h3⟩:=h
 obtain ⟨_,_,hv,hc⟩:=own_form h2
 injection hv with _ _ hv
 subst hv
 exact ⟨A,c,h1,hc,Sl.of_own h2,h3⟩
theorem cut1_len (l:List Int) (r:Rg):(cut1 l r).length≤l.length+2:=by
 unfold cut1
 dsimp only
 have h1:(if inR 0 1114111 r.lo=true then placeL l r.lo else l).length≤l.length+1:=by
  split
  ·exact placeL_len _ _
  ·omega
 split
 ·have:=placeL_len (if inR 0 1114111 r.lo=true then placeL l r.lo else l) (r.hi+1);omega
 ·omega
theorem fold_len (rs:List Rg) (l:List Int):(rs.foldl cut1 l).length≤l.length+2*rs.length:=by
 induction rs generalizing l with
 | nil=>simp
 | cons r rs ih=>
  have:=ih (cut1 l r)
  have:=cut1_len l r
  simp only [List.foldl_cons,List.length_cons]
  omega
theorem cuts_len (rs:List Rg) (l:List Int):(cutsL l rs).length≤l.length+2*rs.length+1:=by
 unfold cutsL
 have:=placeL_len (rs.foldl cut1 l) 0
 have:=fold_len rs l
 omega
section
variable {p:Int→Bool} {cs:List Int} {i:Nat}
theorem bld_len:∀i,(bld p cs i).1.length≤i
 | 0=>Nat.le_refl _
 | i+1=>by
  have ih:=bld_len i
  simp only [bld]
  split
  ·dsimp only
   split
   ·rw [growL_len];omega
   ·rw [List.length_append];simp;omega
  ·dsimp only;omega
end
theorem flatR_sethi (d:List Rg) (i:Nat) (h:Int) {x:Rg} (hx:d[i]?=some x):(flatK Rg.cells d).set (i*2+1) (.int .i64 h)=flatK Rg.cells (d.set i ⟨x.lo,h⟩):=by
 induction d generalizing i with
 | nil=>simp at hx
 | cons y r ih=>
  cases i with
  | zero=>simp at hx;subst hx;simp [flatK,Rg.cells]
  | succ i=>
   have h1:=ih i (by simpa using hx)
   simp only [flatK,List.flatMap_cons,Rg.cells,List.cons_append,List.nil_append,List.set_cons_succ] at *
   rw [show (i+1)*2=i*2+1+1 by omega]
   simp only [List.set_cons_succ,h1]
theorem info_rg:(Tryz.prog.info? 179).map (fun i=>(i.zero,i.size,i.bytes))=some (some (.agg #[.int .i64 0,.int .i64 0]),2,16):=by kernel_rfl
theorem oneCell_rg (r:Rg):∀u ∈ Rg.cells r,u.oneCell'=true:=by
 intro u hu
 simp only [Rg.cells,List.mem_cons,List.not_mem_nil,or_false] at hu
 rcases hu with rfl | rfl <;> rfl
theorem own_le {w:World} {base:Nat} {e:TypeId} {size n c:Nat} {A:Option Addr} {xs:List Value} (h:w.ownsRow base e size (.slice A n c) n xs):n≤c:=by
 obtain ⟨_,_,hv,hc⟩:=own_form h
 injection hv with _ _ hv
 subst hv
 exact hc
theorem own_off {w:World} {base:Nat} {e:TypeId} {size n:Nat} {v:Value} {xs:List Value} (h:w.ownsRow base e size v n xs) {p:Addr} (hp:p.block < base) (u:Value):(w.setCell p u).ownsRow base e size v n xs:=
 h.kept (grown_set w p u) (by
  cases hv:v.ownBlock with
  | none=>exact .inl rfl
  | some q=>
   right
   have:=(h.lt q hv).1
   intro e
   injection e with e
   omega)
def RetSet (rs:List Rg) (w:World) (e:Ending) (w':World):Prop:=∃E d,e=.returned (.agg #[.slice E rs.length d])∧rs.length≤d∧Rgs w' E rs∧Below w.heap.size w w'
end Go.Proofs.YtkhmjidaeliccaaGreatDoor
namespace Go.Proofs.YtkhmjidaeliccaaGreatDoor
open Go.RowKit Go.Maps Go.WideMaps
theorem neq_rg (a b c d:Int) (w:World):(binOp .neq 179 (.agg #[.int .i64 a,.int .i64 b]) (.agg #[.int .i64 c,.int .i64 d])).run Tryz.prog w=.ok (.bool (!decide ((⟨a,b⟩:Rg)=⟨c,d⟩))) w:=by
 have u3:=Tryz.underlying3
 have a3:=Tryz.isAgg3
 have z3:=Tryz.sizeOf3
 have hS:Tryz.prog.underlying 179=some (.struct (Tryz.prog.fieldsOf 179)):=by kernel_rfl
 have hp:Tryz.prog.stoodInHeld 179=false:=by kernel_rfl
 rw [run_neq_struct,show (10000:Nat)=9999+1 from rfl,run_equalIn_agg w 9999 179 _ _ hS hp]
 simp only [Program.fieldsOf,Tryz.underlying179]
 go_simp
 by_cases h2:a=c <;> by_cases h3:b=d <;> simp [h2,h3]
theorem sameR_len {xs ys:List Rg} (h:xs.length≠ys.length):decide (xs=ys)=false:=by simp;exact fun e=>h (by rw [e])
theorem sameR_ne {xs ys:List Rg} {k:Nat} (h1:k < xs.length) (h2:k < ys.length) (h:¬xs[k]=ys[k]):decide (xs=ys)=false:=by simp;rintro rfl;exact h rfl
theorem sameR_eq {xs ys:List Rg} (hl:xs.length=ys.length) (h:∀t,(h1:t < xs.length)→(h2:t < ys.length)→xs[t]=ys[t]):decide (xs=ys)=true:=by simp;exact List.ext_getElem hl h
theorem canR_len (rs:List Rg):(canR rs).length≤2*rs.length+2:=by
 unfold canR
 have h1:=bld_len (p:=hasR rs) (cs:=cutsL (cutsL [] rs) []) (cutsL (cutsL [] rs) []).length
 have h2:(cutsL (cutsL [] rs) []).length≤(cutsL [] rs).length+2*0+1:=cuts_len [] (cutsL [] rs)
 have h3:(cutsL [] rs).length≤0+2*rs.length+1:=cuts_len rs []
 omega
theorem len64_any (n:Nat) (h:n≤12) (w:World):Calls Tryz.prog 220 #[.int .u64 n] w (fun e w'=>(∃z:Int,e=.returned (.int .i64 z))∧w=w'):=by
 obtain rfl | rfl | rfl | rfl | rfl | rfl | rfl | rfl | rfl | rfl | rfl | rfl | rfl:n=0∨n=1∨n=2∨n=3∨n=4∨n=5∨n=6∨n=7∨n=8∨n=9∨n=10∨n=11∨n=12:=by omega
 all_goals
  go_enter Tryz.func220,Tryz.ntmps220
  go_wp2
  go_ret
  exact ⟨⟨_,rfl⟩,rfl⟩
end Go.Proofs.YtkhmjidaeliccaaGreatDoor
namespace Go.Proofs.YtkhmjidaeliccaaGreatDoor
open Go.RowKit Go.Maps Go.WideMaps
theorem len_any (n:Nat) (h:n≤12) (w:World):Calls Tryz.prog 208 #[.int .u64 n] w (fun e w'=>(∃z:Int,e=.returned (.int .i64 z))∧w=w'):=by
 have LC:=Lib.hid (len64_any n h w)
 go_enter Tryz.func208,Tryz.ntmps208
 go_wp2_with fail
 refine LC.out.mono ?_
 rintro e w' ⟨⟨z,rfl⟩,rfl⟩
 go_wp2_with fail
 go_ret
 exact ⟨⟨_,rfl⟩,rfl⟩
theorem sortR_any (base g n c:Nat) (d:List Rg) (w:World) (hR:RRow w base g n c d) (hbig:n≤12) (hok:∀x ∈ d,clipOk x) :
  Calls Tryz.prog 197 #[.slice (some ⟨g,0,none⟩) n c,.func (.func 198) #[] #[]] w (RetR (fun d'=>Srt.Done rkey d d' 0 n) base g n c w):=by
 have LC:=Lib.hid (len_any n hbig w)
 have PC:=Lib.hid (fun z=>pdqR_any base g n c z d w hR hbig hok)
 have hu:IntKind.u64.wrap (n:Int)=(n:Int):=by rw [IntKind.wrap_u64];omega
 clear hR hok
 go_enter Tryz.func197,Tryz.ntmps197
 go_wp2_with fail
 refine LC.out.mono ?_
 rintro e w' ⟨⟨z,rfl⟩,rfl⟩
 go_wp2_with fail
 refine (PC.out z).mono ?_
 rintro e w1 ⟨rfl,d1,hD,hR1,hg1⟩
 have HD:=Lib.hid (And.intro hD (And.intro hR1 hg1))
 clear hD hR1 hg1
 go_wp2_with fail
 go_end0
 exact ⟨rfl,d1,HD.out.1,HD.out.2.1,HD.out.2.2⟩
def RetNone (w:World) (e:Ending) (w':World):Prop:=e=.returned (.tuple #[])∧w=w'
theorem insertR_zero (S:Option Addr) (n c:Nat) (hn:n≤0) (w:World):Calls Tryz.prog 211 #[.slice S n c,.int .i64 0,.int .i64 n,.func (.func 198) #[] #[]] w (RetNone w):=by
 have HN:=Lib.hid hn
 clear hn
 go_enter Tryz.func211,Tryz.ntmps211
 go_wp2
 go_loop [8] (fun i=>∃k:Nat,k=1∧i=.int .i64 k) (fun _=>0)
 case atStart=>exact ⟨1,rfl,rfl⟩
 case round=>
  obtain ⟨k,hk,rfl⟩:=hrel
  have hk1:¬k < n:=by have:=HN.out;omega
  clear hk HN
  go_wp2
  go_end0
  exact ⟨rfl,rfl⟩
theorem pdqR_zero (S:Option Addr) (n c:Nat) (hn:n≤0) (z:Int) (w:World):Calls Tryz.prog 207 #[.slice S n c,.int .i64 0,.int .i64 n,.int .i64 z,.func (.func 198) #[] #[]] w (RetNone w):=by
 have C:=Lib.hid (insertR_zero S n c hn w)
 have q1:decide ((n:Int)≤12)=true:=by simp;omega
 have q2:decide (n≤12)=true:=by simp;omega
 have hbig:n≤12:=by omega
 clear hn
 go_enter Tryz.func207,Tryz.ntmps207
 go_wp2_with fail
 refine wp_loop_rounds 1 ?_
 rw [rounds_succ]
 go_wp2_with fail
 refine C.out.mono ?_
 rintro e w1 ⟨rfl,hw⟩
 have HW:=Lib.hid hw
 clear hw
 go_wp2_with fail
 go_end0
 exact ⟨rfl,HW.out⟩
theorem sortR_zero (S:Option Addr) (n c:Nat) (hn:n≤0) (w:World):Calls Tryz.prog 197 #[.slice S n c,.func (.func 198) #[] #[]] w (RetNone w):=by
 have LC:=Lib.hid (len_any n (by omega) w)
 have PC:=Lib.hid (fun z=>pdqR_zero S n c hn z w)
 have hu:IntKind.u64.wrap (n:Int)=(n:Int):=by rw [IntKind.wrap_u64];omega
 have hbig:n≤12:=by omega
 clear hn
 go_enter Tryz.func197,Tryz.ntmps197
 go_wp2_with fail
 refine LC.out.mono ?_
 rintro e w' ⟨⟨z,rfl⟩,rfl⟩
 go_wp2_with fail
 refine (PC.out z).mono ?_
 rintro e w1 ⟨rfl,rfl⟩
 go_wp2_with fail
 go_end0
 exact ⟨rfl,rfl⟩
theorem anyR_congr {xs ys:List Rg} (h:∀r,r ∈ xs ↔ r ∈ ys) (c:Int):anyR xs c=true ↔ anyR ys c=true:=by
 rw [anyR_iff,anyR_iff]
 exact ⟨fun ⟨r,hr,h1⟩=>⟨r,(h r).1 hr,h1⟩,fun ⟨r,hr,h1⟩=>⟨r,(h r).2 hr,h1⟩⟩
theorem canR_of {rs ds out:List Rg} {b:Int} (hst:Srt.St rkey (clipL rs) ds) (hm:Mg ds out b):out=canR rs:=
 canR_unique hm.ok (fun c c0 c1=>by
  rw [hm.any c,anyR_congr (ys:=clipL rs) (fun r=>⟨fun h=>St_memR hst h,fun h=>St_memR' hst h⟩) c]
  exact clipL_any c0 c1)
theorem sorted_lo {ds:List Rg} {n:Nat} (hs:Srt.SortedOn rkey ds 0 n) (hok:∀r ∈ ds,clipOk r) (hn:ds.length=n) {i t:Nat} (hit:i < t) (ht:t < ds.length):(ds[i]'(by omega)).lo≤ds[t].lo:=by
 have h1:=hs i t (by omega) hit (by omega)
 rw [Srt.kf_some (List.getElem?_eq_getElem (show i < ds.length by omega)),Srt.kf_some (List.getElem?_eq_getElem ht)] at h1
 have a:=hok _ (List.getElem_mem (show i < ds.length by omega))
 have b:=hok _ (List.getElem_mem ht)
 unfold rkey at h1
 unfold clipOk at a b
 omega
section
variable {out:List Rg} {q:Rg}
theorem mrg_app {k:Nat} (hk:out.length=k+1) {x:Rg} (hx:out[k]?=some x) (h:¬q.lo≤x.hi+1):mrg out q=out++[q]:=by
 unfold mrg
 have:out.getLast?=some x:=by rw [List.getLast?_eq_getElem?,hk];simpa using hx
 rw [this]
 simp [h]
theorem mrg_set {k:Nat} (hk:out.length=k+1) {x:Rg} (hx:out[k]?=some x) (h:q.lo≤x.hi+1):mrg out q=out.set k ⟨x.lo,max x.hi q.hi⟩:=by
 unfold mrg
 have:out.getLast?=some x:=by rw [List.getLast?_eq_getElem?,hk];simpa using hx
 rw [this]
 simp only [h,if_true]
 rw [growL_set hk]
 have e:out[k]'(by omega)=x:=(List.getElem?_eq_some_iff.1 hx).2
 rw [e]
end
theorem results_pmake (tmps:Array Value) (w:World) {b:Nat} {v0:Value} (ha:tmps.getD 2 undef=.pointer (some ⟨b,0,none⟩)) (c0:w.cell? ⟨b,0,none⟩=some v0) :
  (results Tryz.f179 tmps).run Tryz.prog w=.ok (.agg #[v0]) w:=by
 have hr:Tryz.f179.results=#[.cell 2 26]:=rfl
 unfold results
 rw [hr]
 simp only [ha,List.mapM_toArray,List.mapM_cons,List.mapM_nil,asAddr]
 go_simp
theorem cpMake_any (A:Option Addr) (n a:Nat) (rs:List Rg) (w:World) (hA:Rgs w A rs) (hn:rs.length=n) (hz:n≤12) :
  Calls Tryz.prog 179 #[.slice A n a] w (RetSet (canR rs) w):=by
 subst hn
 have B0:Below w.heap.size w (w.alloc (.cells #[.slice none 0 0] 26)):=(Below.refl _ _).alloc (Nat.le_refl _) _
 have X0:Box (w.alloc (.cells #[.slice none 0 0] 26)) w.heap.size 26 [.slice none 0 0]:=Box.new _ _ _ rfl
 have s0:(w.alloc (.cells #[.slice none 0 0] 26)).heap.size=w.heap.size+1:=by simp
 have W0E:∃W0,(w.alloc (.cells #[.slice none 0 0] 26))=W0:=⟨_,rfl⟩
 have HA:=Lib.hid hA
 have HCO:=Lib.hid (fun ds out b h1 h2=>canR_of (rs:=rs) (ds:=ds) (out:=out) (b:=b) h1 h2)
 have HCL:=Lib.hid (clipL_ok rs)
 have hcl:=clipL_len rs
 generalize canR rs=R at *
 clear hA
 go_enter Tryz.func179,Tryz.ntmps179
 go_wp2_with fail
 obtain ⟨W0,hW0⟩:=W0E
 rw [hW0] at B0 X0 s0 ⊢
 clear hW0
 have HNIL:=Lib.hid (show W0.ownsRow W0.heap.size 179 2 (.slice none 0 0) 0 ([]:List Value) from World.ownsRow_nil _ _ _ _)
 have C0:=Lib.hid (show clipL (rs.take 0)=[] from rfl)
 go_loopw [3,13] (fun v u wr=>∃(i:Nat) (S:Option Addr) (k:Nat),i≤rs.length∧u=.int .i64 i∧v=.slice S (clipL (rs.take i)).length k∧wr.ownsRow W0.heap.size 179 2 (.slice S (clipL (rs.take i)).length k) (clipL (rs.take i)).length (flatK Rg.cells (clipL (rs.take i)))∧Below W0.heap.size W0 wr) (fun _ u _=>rs.length - (intOf u).toNat)
 case atStart=>exact ⟨0,none,0,Nat.zero_le _,rfl,by rw [C0.out];rfl,by rw [C0.out];exact HNIL.out,Below.refl _ _⟩
 case round=>
  obtain ⟨i,S,k,hi,rfl,rfl,hown,hbr⟩:=hrel
  have HOWN:=Lib.hid hown
  clear hown HNIL C0
  have hbw:=B0.trans (hbr.mono B0.size)
  have hcli:(clipL (rs.take i)).length≤i:=Nat.le_trans (clipL_len _) (List.length_take_le _ _)
  by_cases hlt:i < rs.length
  ·obtain ⟨b1,o1,rfl,hbl,hcell⟩:=(HA.out.below hbw).at hlt
   obtain ⟨c1,c2⟩:=hcell i hlt
   have CT:=Lib.hid (clipL_take hlt)
   have CP:=Lib.hid (show clip1 rs[i]=⟨max rs[i].lo 0,min rs[i].hi 1114111⟩ from rfl)
   clear hcell
   generalize hcc:clip1 rs[i]=cr at *
   clear hcc
   generalize rs[i]=ri at *
   generalize hL0:clipL (rs.take i)=L0 at *
   clear hL0
   obtain ⟨rlo,rhi⟩:=ri
   obtain ⟨pl,ph⟩:=cr
   dsimp only at *
   have e0:=CP.out
   injection e0 with e1 e2
   have em:(if rlo < 0 then (0:Int) else rlo)=pl:=by rw [e1];split <;> omega
   have eM:(if 1114111 < rhi then (1114111:Int) else rhi)=ph:=by rw [e2];split <;> omega
   clear e1 e2 CP
   have hn1:¬b1=wr.heap.size:=by omega
   have Bp:Below wr.heap.size wr ((wr.alloc (.cells #[.int .i64 rlo,.int .i64 rhi] 179)).alloc (.cells #[.int .i64 pl,.int .i64 ph] 179)):=((Below.refl _ _).alloc (Nat.le_refl _) _).alloc (by simp) _
   by_cases hp:pl≤ph
   ·have q1:decide (pl≤ph)=true:=by simpa using hp
    have ct:=CT.out
    rw [if_pos hp] at ct
    have HCT:=Lib.hid ct
    have Bq:Below wr.heap.size wr (((wr.alloc (.cells #[.int .i64 rlo,.int .i64 rhi] 179)).alloc (.cells #[.int .i64 pl,.int .i64 ph] 179)).alloc (.cells #[.int .i64 pl,.int .i64 ph] 179)):=Bp.alloc Bp.size _
    have HOP:=Lib.hid (own_keep HOWN.out Bq)
    have szp:W0.heap.size≤(((wr.alloc (.cells #[.int .i64 rlo,.int .i64 rhi] 179)).alloc (.cells #[.int .i64 pl,.int .i64 ph] 179)).alloc (.cells #[.int .i64 pl,.int .i64 ph] 179)).heap.size:=Nat.le_trans hbr.size Bq.size
    have hb9:=hbr.trans (Bq.mono hbr.size)
    clear CT ct HOWN Bp Bq
    go_wp2_with (at_builtin;refine wpList_app _ _ 24 179 (.agg #[.int .i64 0,.int .i64 0]) 2 16 rfl rfl Tryz.underlying24 info_rg rfl (by decide) (by decide) rfl HOP.out rfl (Sl_new _ (Rg.cells ⟨pl,ph⟩) _ (by simp)) rfl (oneCell_rg _) (by omega) szp ?_;intro A7 c7 w7 hown7 hc7 hb7 _ _;have HO7:=Lib.hid hown7;clear hown7)
    go_roundw
    case rel=>exact ⟨i+1,A7,c7,by omega,by go_num,by rw [HCT.out,List.length_append];rfl,by rw [HCT.out,List.length_append,flatK_append];exact HO7.out,hb9.trans hb7⟩
    case measure=>simp [intOf];omega
   ·have q1:decide (pl≤ph)=false:=by simpa using hp
    have ct:=CT.out
    rw [if_neg hp,List.append_nil] at ct
    have HCT:=Lib.hid ct
    have HOP:=Lib.hid (own_keep HOWN.out Bp)
    have hb9:=hbr.trans (Bp.mono hbr.size)
    clear CT ct HOWN Bp
    go_wp2_with fail
    go_roundw
    case rel=>exact ⟨i+1,S,k,by omega,by go_num,by rw [HCT.out],by rw [HCT.out];exact HOP.out,hb9⟩
    case measure=>simp [intOf];omega
  ·rw [List.take_of_length_le (show rs.length≤i by omega)] at HOWN ⊢
   clear hcli
   have SRT:=Lib.hid (show Calls Tryz.prog 197 #[.slice S (clipL rs).length k,.func (.func 198) #[] #[]] wr (fun e w'=>e=.returned (.tuple #[])∧∃ds,ds.length=(clipL rs).length∧Srt.St rkey (clipL rs) ds∧Srt.SortedOn rkey ds 0 (clipL rs).length∧Rgs w' S ds∧Below W0.heap.size W0 w') by
    rcases Nat.eq_zero_or_pos (clipL rs).length with h0 | h0
    ·have hnil:clipL rs=[]:=List.length_eq_zero_iff.1 h0
     exact (sortR_zero S (clipL rs).length k (by omega) wr).mono (fun e w' ⟨he,hw⟩=>⟨he,[],by rw [hnil],by rw [hnil];exact Srt.St.refl _,Srt.SortedOn.short (by omega),Sl.nil _ _,by subst hw;exact hbr⟩)
    ·have ho:=HOWN.out
     obtain ⟨g,hS⟩:∃g,S=some ⟨g,0,none⟩:=by
      rcases ho.2 with ⟨_,h1⟩ | ⟨g,cap,cur,hv',_⟩
      ·omega
      ·injection hv' with hA' _ _;exact ⟨g,hA'⟩
     subst hS
     have hg0:W0.heap.size≤g:=(ho.lt g rfl).1
     refine (sortR_any W0.heap.size g (clipL rs).length k (clipL rs) wr ho (by omega) HCL.out).mono (fun e w' ⟨he,d1,hD,hR1,hg1⟩=>⟨he,d1,hR1.len,hD.2.1,hD.2.2,Sl.of_own hR1,below_grown hbr hg1 hg0 hbr.size⟩))
   clear HOWN
   generalize hcl0:clipL rs=cl at *
   clear hcl0
   go_wp2_with fail
   with_reducible refine SRT.out.mono ?_
   rintro e W2 ⟨rfl,ds,hdl,hst,hso,hds,hb2⟩
   have HDS:=Lib.hid hds
   have HST:=Lib.hid hst
   have HDL:=Lib.hid hdl
   have HOK:=Lib.hid (show ∀r ∈ ds,clipOk r from fun r hr=>HCL.out r (St_memR hst hr))
   have HLO:=Lib.hid (show ∀i t,(hit:i < t)→(ht:t < ds.length)→(ds[i]'(by omega)).lo≤ds[t].lo from fun i t hit ht=>sorted_lo hso (fun r hr=>HCL.out r (St_memR hst hr)) hdl (i:=i) (t:=t) hit ht)
   rw [←hdl]
   have hdz:ds.length≤12:=by omega
   clear SRT hds hst hso hdl
   have HNIL:=Lib.hid (show W2.ownsRow W2.heap.size 179 2 (.slice none 0 0) 0 ([]:List Value) from World.ownsRow_nil _ _ _ _)
   have hb3:=B0.trans (hb2.mono B0.size)
   go_wp2_with fail
   go_loopw [7,38] (fun v u wr=>∃(i:Nat) (S:Option Addr) (k:Nat) (out:List Rg) (b:Int),i≤ds.length∧u=.int .i64 i∧v=.slice S out.length k∧wr.ownsRow W2.heap.size 179 2 (.slice S out.length k) out.length (flatK Rg.cells out)∧out.length≤i∧Mg (ds.take i) out b∧(∀t,(ht:t < ds.length)→i≤t→b≤ds[t].lo)∧Below W2.heap.size W2 wr) (fun _ u _=>ds.length - (intOf u).toNat)
   case atStart=>exact ⟨0,none,0,[],0,Nat.zero_le _,rfl,rfl,HNIL.out,Nat.le_refl _,Mg.nil 0,fun t ht _=>(HOK.out _ (List.getElem_mem ht)).1,Below.refl _ _⟩
   case round=>
    obtain ⟨i,S',k',out,b,hi,rfl,rfl,hown,hol,hMg,hbl',hbr2⟩:=hrel
    have HOWN:=Lib.hid hown;have HMG:=Lib.hid hMg;have HBL:=Lib.hid hbl'
    clear hown hMg hbl' HNIL
    by_cases hlt:i < ds.length
    ·obtain ⟨b1,o1,rfl,hbl,hcell⟩:=(HDS.out.below hbr2).at hlt
     obtain ⟨c1,c2⟩:=hcell i hlt
     have hclip:=HOK.out ds[i] (List.getElem_mem hlt)
     have HMS:=Lib.hid (show Mg (ds.take (i+1)) (mrg out ds[i]) ds[i].lo by rw [List.take_succ_eq_append_getElem hlt];exact HMG.out.step (HBL.out i hlt (Nat.le_refl _)) hclip)
     have HBS:=Lib.hid (show ∀t,(ht:t < ds.length)→i+1≤t→ds[i].lo≤ds[t].lo from fun t ht hit=>HLO.out i t (by omega) ht)
     have MO:=Lib.hid (fun hk x hx h=>mrg_app (out:=out) (q:=ds[i]'hlt) (k:=out.length - 1) hk (x:=x) hx h)
     have MS:=Lib.hid (fun hk x hx h=>mrg_set (out:=out) (q:=ds[i]'hlt) (k:=out.length - 1) hk (x:=x) hx h)
     have MN:=Lib.hid (fun (h:out=[])=>show mrg out ds[i]=out++[ds[i]] by subst h;rfl)
     have HOO:=Lib.hid HMG.out.ok.1
     clear hcell HMG HBL
     generalize mrg out ds[i]=M1 at *
     generalize ds[i]=q at *
     obtain ⟨qlo,qhi⟩:=q
     dsimp only at *
     unfold clipOk at hclip
     dsimp only at hclip
     have Ba:Below wr.heap.size wr (wr.alloc (.cells #[.int .i64 qlo,.int .i64 qhi] 179)):=(Below.refl _ _).alloc (Nat.le_refl _) _
     have sa:(wr.alloc (.cells #[.int .i64 qlo,.int .i64 qhi] 179)).heap.size=wr.heap.size+1:=by simp
     have x0:(wr.alloc (.cells #[.int .i64 qlo,.int .i64 qhi] 179)).cell? ⟨wr.heap.size,0,none⟩=some (.int .i64 qlo):=by simp
     have x1:(wr.alloc (.cells #[.int .i64 qlo,.int .i64 qhi] 179)).cell? ⟨wr.heap.size,1,none⟩=some (.int .i64 qhi):=by simp
     have HOA:=Lib.hid (own_keep HOWN.out Ba)
     have HGW:=Lib.hid (show ∀g,S'=some ⟨g,0,none⟩→g < wr.heap.size from fun g e=>(HOWN.out.lt g (by rw [e];rfl)).2)
     have hb4:=hbr2.trans (Ba.mono hbr2.size)
     have WaE:∃Wa,wr.alloc (.cells #[.int .i64 qlo,.int .i64 qhi] 179)=Wa:=⟨_,rfl⟩
     have hn1:¬b1=wr.heap.size:=by omega
     clear HOWN
     go_wp2_with fail
     obtain ⟨Wa,hWa⟩:=WaE
     rw [hWa] at Ba sa x0 x1 HOA hb4 ⊢
     clear hWa c1 c2
     rcases Nat.eq_zero_or_pos out.length with hl0 | hl0
     ·have hnil:out=[]:=List.length_eq_zero_iff.1 hl0
      obtain rfl:=MN.out hnil
      have q0:decide ((0:Int) < (out.length:Int))=false:=by simp [hnil]
      have q00:decide (0 < out.length)=false:=by simp [hnil]
      clear MN MO MS hnil hl0
      go_quiet (fail)
      have x0q:(Wa.drewN nq).cell? ⟨wr.heap.size,0,none⟩=some (.int .i64 qlo):=x0
      have x1q:(Wa.drewN nq).cell? ⟨wr.heap.size,1,none⟩=some (.int .i64 qhi):=x1
      have HOQ:=Lib.hid (show (Wa.drewN nq).ownsRow W2.heap.size 179 2 (.slice S' out.length k') out.length (flatK Rg.cells out) from HOA.out)
      have hb5:=below_drewN hb4 nq
      have hxq:wr.heap.size < (Wa.drewN nq).heap.size:=by show wr.heap.size < Wa.heap.size;omega
      clear HOA hb4 sa x0 x1
      generalize Wa.drewN nq=Wq at *
      have Bq:Below Wq.heap.size Wq (Wq.alloc (.cells #[.int .i64 qlo,.int .i64 qhi] 179)):=(Below.refl _ _).alloc (Nat.le_refl _) _
      have HOP:=Lib.hid (own_keep HOQ.out Bq)
      have hb6:=hb5.trans (Bq.mono hb5.size)
      have szp:W2.heap.size≤(Wq.alloc (.cells #[.int .i64 qlo,.int .i64 qhi] 179)).heap.size:=hb6.size
      clear HOQ Bq
      go_wp2_with (at_builtin;refine wpList_app _ _ 24 179 (.agg #[.int .i64 0,.int .i64 0]) 2 16 rfl rfl Tryz.underlying24 info_rg rfl (by decide) (by decide) rfl HOP.out rfl (Sl_new _ (Rg.cells ⟨qlo,qhi⟩) _ rfl) rfl (oneCell_rg _) (by omega) szp ?_;intro A7 c7 w7 hown7 hc7 hb7 _ _;have HO7:=Lib.hid hown7;clear hown7)
      go_roundw
      case rel=>exact ⟨i+1,A7,c7,out++[⟨qlo,qhi⟩],qlo,by omega,by go_num,by rw [List.length_append];rfl,by rw [List.length_append,flatK_append];exact HO7.out,by rw [List.length_append];simp;omega,HMS.out,HBS.out,hb6.trans hb7⟩
      case measure=>simp [intOf];omega
     ·obtain ⟨j,hj⟩:∃j,out.length=j+1:=⟨out.length - 1,by omega⟩
      have hjx:j < out.length:=by omega
      have MO:=Lib.hid (fun (x:Rg) (hx:out[j]?=some x) (h:¬qlo≤x.hi+1)=>MO.out (by omega) x (by rw [show out.length - 1=j by omega];exact hx) (by omega))
      have MS:=Lib.hid (fun (x:Rg) (hx:out[j]?=some x) (h:qlo≤x.hi+1)=>(MS.out (by omega) x (by rw [show out.length - 1=j by omega];exact hx) (by omega)))
      obtain ⟨y,hy⟩:=get_of_ltR hjx
      have hyo:=HOO.out y (List.mem_of_getElem? hy)
      unfold clipOk at hyo
      obtain ⟨g,hS⟩:∃g,S'=some ⟨g,0,none⟩:=by
       rcases HOA.out.2 with ⟨_,h1⟩ | ⟨g,cap,cur,hv',_⟩
       ·omega
       ·injection hv' with hA' _ _;exact ⟨g,hA'⟩
      subst hS
      have gO:W2.heap.size≤g:=(HOA.out.lt g rfl).1
      have gl:g < Wa.heap.size:=(HOA.out.lt g rfl).2
      have y1:Wa.cell? ⟨g,j*2+1,none⟩=some (.int .i64 y.hi):=by
       rw [World.ownsRow.cellAt HOA.out (j*2+1) (by omega),flatK_get Rg.cells 2 (fun _=>rfl) out j 1 hjx (by omega),(List.getElem?_eq_some_iff.1 hy).2]
       rfl
      have f1:=World.ownsRow.frozenAt HOA.out (j*2+1)
      have HY:=Lib.hid hy
      have HJ:=Lib.hid hj
      have i0:decide ((0:Int) < (out.length:Int))=true:=by simp;omega
      have i1:IntKind.i64.wrap ((out.length:Int) - 1)=(j:Int):=by rw [IntWalk.i64_in _ (by omega)];omega
      have i2:(0:Int)≤(j:Int):=by omega
      have i3:((j:Int)).toNat=j:=by omega
      have i4:(j:Int) < (out.length:Int):=by omega
      have i5:IntKind.i64.wrap (y.hi+1)=y.hi+1:=IntWalk.i64_in _ (by omega)
      have yhi:=hyo
      clear hy hj MN
      have HGB:=Lib.hid (show g < wr.heap.size from HGW.out g rfl)
      by_cases hm:qlo≤y.hi+1
      ·have q1:decide (qlo≤y.hi+1)=true:=by simpa using hm
       have HMS2:=Lib.hid (MS.out y HY.out hm)
       clear MO MS
       go_quiet (fail)
       have x0q:(Wa.drewN nq).cell? ⟨wr.heap.size,0,none⟩=some (.int .i64 qlo):=x0
       have x1q:(Wa.drewN nq).cell? ⟨wr.heap.size,1,none⟩=some (.int .i64 qhi):=x1
       have HOQ:=Lib.hid (show (Wa.drewN nq).ownsRow W2.heap.size 179 2 (.slice (some ⟨g,0,none⟩) out.length k') out.length (flatK Rg.cells out) from HOA.out)
       have hb5:=below_drewN hb4 nq
       have hxq:wr.heap.size < (Wa.drewN nq).heap.size:=by show wr.heap.size < Wa.heap.size;omega
       clear HOA hb4 sa x0 x1
       have y1q:(Wa.drewN nq).cell? ⟨g,j*2+1,none⟩=some (.int .i64 y.hi):=y1
       have f1q:(Wa.drewN nq).frozen? ⟨g,j*2+1,none⟩=false:=f1
       clear y1 f1
       generalize Wa.drewN nq=Wq at *
       have hgne:¬g=wr.heap.size:=by have:=HGB.out;omega
       go_wp2_with fail
       go_region
       all_goals
        have hmx:(if y.hi < qhi then qhi else y.hi)=max y.hi qhi:=by split <;> omega
        have st:=World.ownsRow.stored HOQ.out (j*2+1) (.int .i64 (if y.hi < qhi then qhi else y.hi))
        rw [flatR_sethi out j _ HY.out] at st
        have HST2:=Lib.hid st.1
        have hbs:=hb5.setCell (p:=⟨g,j*2+1,none⟩) gO (.int .i64 (if y.hi < qhi then qhi else y.hi))
        have HMX:=Lib.hid hmx
        clear st hmx
        go_wp2_with fail
        go_roundw
        case rel=>
         have e0:out.length - 1=j:=by have:=HJ.out;omega
         have e1:=HMS2.out
         rw [e0] at e1
         subst e1
         refine ⟨i+1,some ⟨g,0,none⟩,k',out.set j ⟨y.lo,max y.hi qhi⟩,qlo,by omega,by go_num,by rw [List.length_set],?_,by rw [List.length_set];omega,HMS.out,HBS.out,hbs.drew⟩
         rw [List.length_set,←HMX.out]
         exact HST2.out
        case measure=>simp [intOf];omega
      ·have q1:decide (qlo≤y.hi+1)=false:=by simpa using hm
       obtain rfl:=MO.out y HY.out hm
       clear MO MS
       go_quiet (fail)
       clear i0 i1 i2 i3 i4 i5 y1 f1
       have x0q:(Wa.drewN nq).cell? ⟨wr.heap.size,0,none⟩=some (.int .i64 qlo):=x0
       have x1q:(Wa.drewN nq).cell? ⟨wr.heap.size,1,none⟩=some (.int .i64 qhi):=x1
       have HOQ:=Lib.hid (show (Wa.drewN nq).ownsRow W2.heap.size 179 2 (.slice (some ⟨g,0,none⟩) out.length k') out.length (flatK Rg.cells out) from HOA.out)
       have hb5:=below_drewN hb4 nq
       have hxq:wr.heap.size < (Wa.drewN nq).heap.size:=by show wr.heap.size < Wa.heap.size;omega
       clear HOA hb4 sa x0 x1
       generalize Wa.drewN nq=Wq at *
       have Bq:Below Wq.heap.size Wq (Wq.alloc (.cells #[.int .i64 qlo,.int .i64 qhi] 179)):=(Below.refl _ _).alloc (Nat.le_refl _) _
       have HOP:=Lib.hid (own_keep HOQ.out Bq)
       have hb6:=hb5.trans (Bq.mono hb5.size)
       have szp:W2.heap.size≤(Wq.alloc (.cells #[.int .i64 qlo,.int .i64 qhi] 179)).heap.size:=hb6.size
       clear HOQ Bq
       go_wp2_with (at_builtin;refine wpList_app _ _ 24 179 (.agg #[.int .i64 0,.int .i64 0]) 2 16 rfl rfl Tryz.underlying24 info_rg rfl (by decide) (by decide) rfl HOP.out rfl (Sl_new _ (Rg.cells ⟨qlo,qhi⟩) _ rfl) rfl (oneCell_rg _) (by omega) szp ?_;intro A7 c7 w7 hown7 hc7 hb7 _ _;have HO7:=Lib.hid hown7;clear hown7)
       go_roundw
       case rel=>exact ⟨i+1,A7,c7,out++[⟨qlo,qhi⟩],qlo,by omega,by go_num,by rw [List.length_append];rfl,by rw [List.length_append,flatK_append];exact HO7.out,by rw [List.length_append];simp;omega,HMS.out,HBS.out,hb6.trans hb7⟩
       case measure=>simp [intOf];omega
    ·have hmg:=HMG.out
     rw [List.take_of_length_le (show ds.length≤i by omega)] at hmg
     obtain rfl:=HCO.out ds out b HST.out hmg
     have hb6:=hb2.trans (hbr2.mono hb2.size)
     have hb7:=B0.trans (hb6.mono B0.size)
     have X9:=X0.below hb6 X0.lt
     have z9:=X9.cell (i:=0) rfl
     have f9:=X9.free 0
     have hxr:=X9.lt
     have hxw:w.heap.size < W2.heap.size:=by have:=hb2.size;omega
     have hbf:=hb7.setCell (p:=⟨w.heap.size,0,none⟩) (Nat.le_refl _) (.slice S' out.length k')
     have HRW:=Lib.hid (Sl.of_own (own_off HOWN.out (p:=⟨w.heap.size,0,none⟩) hxw (.slice S' out.length k')))
     have hc:=own_le HOWN.out
     clear HMG hmg HOWN HCO X9
     go_wp2_with fail
     (try simp only [Exit.inBlock,Exit.then]);refine bodyPost_ret (results_pmake _ _ (b:=w.heap.size) (v0:=.slice S' out.length k') rfl (by go_simp)) rfl ?_
     exact ⟨S',k',rfl,hc,HRW.out,hbf⟩
end Go.Proofs.YtkhmjidaeliccaaGreatDoor
namespace Go.Proofs.YtkhmjidaeliccaaGreatDoor
open Go.RowKit Go.Maps Go.WideMaps
theorem cpValidS_any (A:Option Addr) (n a:Nat) (ys:List Rg) (w:World) (hA:Rgs w A ys) (hn:ys.length=n) (hz:n≤12) :
  Calls Tryz.prog 141 #[.agg #[.slice A n a]] w (RetBool (setOk ys) w):=by
 subst hn
 have B0:Below w.heap.size w (w.alloc (.cells #[.slice A ys.length a] 26)):=(Below.refl _ _).alloc (Nat.le_refl _) _
 have k0:(w.alloc (.cells #[.slice A ys.length a] 26)).cell? ⟨w.heap.size,0,none⟩=some (.slice A ys.length a):=by simp
 have s0:(w.alloc (.cells #[.slice A ys.length a] 26)).heap.size=w.heap.size+1:=by simp
 have W0E:∃W0,(w.alloc (.cells #[.slice A ys.length a] 26))=W0:=⟨_,rfl⟩
 have MC:=Lib.hid (fun W (hb:Below w.heap.size w W)=>cpMake_any A ys.length a ys W (hA.below hb) rfl hz)
 have hcl:=canR_len ys
 have S0:=Lib.hid (show setOk ys=decide (canR ys=ys) from rfl)
 generalize canR ys=xs at *
 have S1:=Lib.hid (sameR_len (xs:=xs) (ys:=ys))
 have S2:=Lib.hid (fun k h1 h2 h=>sameR_ne (xs:=xs) (ys:=ys) (k:=k) h1 h2 h)
 have S3:=Lib.hid (sameR_eq (xs:=xs) (ys:=ys))
 generalize decide (xs=ys)=R at *
 generalize setOk ys=R' at *
 obtain rfl:=S0.out
 have HA:=Lib.hid (fun W (hb:Below w.heap.size w W)=>hA.below hb)
 clear hA
 go_enter Tryz.func141,Tryz.ntmps141
 go_wp2_with fail
 obtain ⟨W0,hW0⟩:=W0E
 rw [hW0] at B0 k0 s0 ⊢
 clear hW0
 have hx0:w.heap.size < W0.heap.size:=by omega
 with_reducible refine (MC.out W0 B0).mono ?_
 rintro e W1 ⟨E,d,rfl,hd,hE,hb1⟩
 have HE:=Lib.hid hE
 have f0:=(hb1.cell (p:=⟨w.heap.size,0,none⟩) hx0).trans k0
 have hx1:w.heap.size < W1.heap.size:=by have:=hb1.size;omega
 have hxn:¬w.heap.size=W1.heap.size:=by omega
 have Bm:Below W1.heap.size W1 (W1.alloc (.cells #[.slice E xs.length d] 26)):=(Below.refl _ _).alloc (Nat.le_refl _) _
 have m0:(W1.alloc (.cells #[.slice E xs.length d] 26)).cell? ⟨W1.heap.size,0,none⟩=some (.slice E xs.length d):=by simp
 have g0:=(Bm.cell (p:=⟨w.heap.size,0,none⟩) hx1).trans f0
 have sm:(W1.alloc (.cells #[.slice E xs.length d] 26)).heap.size=W1.heap.size+1:=by simp
 have hb2:=B0.trans (hb1.mono B0.size)
 have hb3:=hb2.trans (Bm.mono hb2.size)
 have HE2:=Lib.hid (HE.out.below Bm)
 have W2E:∃W2,W1.alloc (.cells #[.slice E xs.length d] 26)=W2:=⟨_,rfl⟩
 clear MC hE HE k0
 by_cases hl:xs.length=ys.length
 rotate_left
 ·obtain rfl:=S1.out hl
  have q1:((xs.length:Int) != (ys.length:Int))=true:=by simp;omega
  go_wp2_with fail
  go_ret
  exact ⟨rfl,hb3⟩
 have q1:((xs.length:Int) != (ys.length:Int))=false:=by simp;omega
 have hle:xs.length≤ys.length:=by omega
 have S3':=Lib.hid (S3.out hl)
 clear hl S1 S3
 go_wp2_with fail
 obtain ⟨W2,hW2⟩:=W2E
 rw [hW2] at Bm m0 g0 sm hb3 HE2 ⊢
 clear hW2 q1 f0
 have hy0:w.heap.size < W2.heap.size:=by omega
 have G0:=Lib.hid g0
 clear g0 m0
 go_loopw [19] (fun u wr=>∃i:Nat,i≤xs.length∧u=.int .i64 i∧(∀t,(h1:t < xs.length)→(h2:t < ys.length)→t < i→xs[t]=ys[t])∧Below W2.heap.size W2 wr) (fun u _=>xs.length - (intOf u).toNat)
 case atStart=>exact ⟨0,Nat.zero_le _,rfl,fun t _ _ h=>by omega,Below.refl _ _⟩
 case round=>
  obtain ⟨i,hi,rfl,hno,hbr⟩:=hrel
  have HNO:=Lib.hid hno
  clear hno
  have f0:=(hbr.cell (p:=⟨w.heap.size,0,none⟩) hy0).trans G0.out
  have hyr:w.heap.size < wr.heap.size:=by have:=hbr.size;omega
  have hyn:¬w.heap.size=wr.heap.size:=by omega
  have hbw:=hb3.trans (hbr.mono hb3.size)
  by_cases hlt:i < xs.length
  ·have hlt2:i < ys.length:=by omega
   obtain ⟨b1,o1,rfl,hbl,hcell⟩:=(HE2.out.below hbr).at hlt
   obtain ⟨c1,c2⟩:=hcell i hlt
   obtain ⟨b2,o2,rfl,hbl2,hcell2⟩:=(HA.out wr hbw).at hlt2
   obtain ⟨d1,d2⟩:=hcell2 i hlt2
   have HY:=Lib.hid (fun h=>S2.out i hlt hlt2 h)
   have HN:=Lib.hid (fun (h:xs[i]=ys[i])=>show ∀t,(h1:t < xs.length)→(h2:t < ys.length)→t < i+1→xs[t]=ys[t] from fun t h1 h2 ht=>by
    by_cases e:t < i
    ·exact HNO.out t h1 h2 e
    ·obtain rfl:t=i:=by omega
     exact h)
   clear hcell hcell2
   generalize xs[i]=x at *
   generalize ys[i]=y at *
   obtain ⟨xl,xh⟩:=x
   obtain ⟨yl,yh⟩:=y
   dsimp only at *
   have n1:¬b1=wr.heap.size:=by omega
   have n2:¬b2=wr.heap.size:=by omega
   have i1:(0:Int)≤(i:Int):=by omega
   have i2:(i:Int) < (xs.length:Int):=by omega
   have i3:((i:Int)).toNat=i:=by omega
   have i4:(i:Int) < (ys.length:Int):=by omega
   have Bx:Below wr.heap.size wr (wr.alloc (.cells #[.int .i64 xl,.int .i64 xh] 179)):=(Below.refl _ _).alloc (Nat.le_refl _) _
   have x0:(wr.alloc (.cells #[.int .i64 xl,.int .i64 xh] 179)).cell? ⟨wr.heap.size,0,none⟩=some (.int .i64 xl):=by simp
   have x1:(wr.alloc (.cells #[.int .i64 xl,.int .i64 xh] 179)).cell? ⟨wr.heap.size,1,none⟩=some (.int .i64 xh):=by simp
   have e0:=(Bx.cell (p:=⟨w.heap.size,0,none⟩) hyr).trans f0
   have e1:=(Bx.cell (p:=⟨b2,o2+i*2,none⟩) hbl2).trans d1
   have e2:=(Bx.cell (p:=⟨b2,o2+i*2+1,none⟩) hbl2).trans d2
   have hb5:=hbr.trans (Bx.mono hbr.size)
   have WxE:∃Wx,wr.alloc (.cells #[.int .i64 xl,.int .i64 xh] 179)=Wx:=⟨_,rfl⟩
   clear f0 d1 d2
   go_wp2_with fail
   obtain ⟨Wx,hWx⟩:=WxE
   rw [hWx] at Bx x0 x1 e0 e1 e2 hb5 ⊢
   clear hWx c1 c2
   by_cases he:(⟨xl,xh⟩:Rg)=⟨yl,yh⟩
   ·have HQ:=Lib.hid (HN.out he)
    have NR1:∀W,(binOp .neq 179 (.agg #[.int .i64 xl,.int .i64 xh]) (.agg #[.int .i64 yl,.int .i64 yh])).run Tryz.prog W=.ok (.bool false) W:=fun W=>by rw [neq_rg,he];simp
    clear HY HN he
    go_quiet (fail)
    go_wp2_with fail
    go_roundw
    case rel=>exact ⟨i+1,by omega,by go_num,HQ.out,below_drewN hb5 _⟩
    case measure=>simp [intOf];omega
   ·obtain rfl:=HY.out he
    have NR1:∀W,(binOp .neq 179 (.agg #[.int .i64 xl,.int .i64 xh]) (.agg #[.int .i64 yl,.int .i64 yh])).run Tryz.prog W=.ok (.bool true) W:=fun W=>by rw [neq_rg,decide_eq_false he];rfl
    clear HY HN he
    go_quiet (fail)
    go_wp2_with fail
    go_ret
    exact ⟨rfl,hb3.trans ((below_drewN hb5 _).mono hb3.size)⟩
  ·obtain rfl:=S3'.out (fun t h1 h2=>HNO.out t h1 h2 (by omega))
   go_wp2_with fail
   go_ret
   exact ⟨rfl,hbw⟩
end Go.Proofs.YtkhmjidaeliccaaGreatDoor
namespace Go.Proofs.YtkhmjidaeliccaaGreatDoor
open Go.RowKit Go.Maps Go.WideMaps
structure NrmAt (w:World) (A0:Option Addr) (n0:Nat) (A1:Option Addr) (n1:Nat) (A2:Option Addr) (n2:Nat) (x:Nrm):Prop where
 s0:Spans w A0 x.cls
 s1:Mps w A1 x.dec
 s2:Rgs w A2 x.exc
 l0:x.cls.length=n0
 l1:x.dec.length=n1
 l2:x.exc.length=n2
theorem NrmAt.below {w w':World} {A0:Option Addr} {n0:Nat} {A1:Option Addr} {n1:Nat} {A2:Option Addr} {n2:Nat} {x:Nrm} (h:NrmAt w A0 n0 A1 n1 A2 n2 x) (hb:Below w.heap.size w w'):NrmAt w' A0 n0 A1 n1 A2 n2 x:=
 ⟨h.s0.below hb,h.s1.below hb,h.s2.below hb,h.l0,h.l1,h.l2⟩
structure NrmSz (x:Nrm):Prop where
 z0:x.cls.length≤1048576
 z1:MpsSz x.dec
 z2:x.exc.length≤12
theorem dCheck_any (A0:Option Addr) (n0 k0:Nat) (A1:Option Addr) (n1 k1:Nat) (A2:Option Addr) (n2 k2:Nat) (x:Nrm) (w:World) (hN:NrmAt w A0 n0 A1 n1 A2 n2 x) (hz:NrmSz x) (hL:Laid w) :
  Calls Tryz.prog 84 #[.agg #[.slice A0 n0 k0,.slice A1 n1 k1,.slice A2 n2 k2]] w (RetInt (nErr x) w):=by
 obtain ⟨ss,ms,rs⟩:=x
 obtain ⟨hS,hM,hR,rfl,rfl,rfl⟩:=hN
 dsimp only at *
 have z0:ss.length≤1048576:=hz.z0
 have z1:ms.length≤1048576:=hz.z1.n
 have CC:=Lib.hid (fun W (hb:Below w.heap.size w W)=>Check_any A0 ss.length k0 ss W (hS.below hb) rfl (by omega) (hL.below hb))
 have MC:=Lib.hid (fun W (hb:Below w.heap.size w W)=>mapCheck_any A1 ms.length k1 ms W (hM.below hb) rfl hz.z1)
 have VC:=Lib.hid (fun W (hb:Below w.heap.size w W)=>cpValidS_any A2 rs.length k2 rs W (hR.below hb) rfl hz.z2)
 have KC:=Lib.hid (fun c W=>Kind_any c W)
 have RC:=Lib.hid (fun A nt kt text W (hb:Below w.heap.size w W) (hT:Ints W A text) (hnt:text.length=nt) (hbt:nt≤1048576)=>Runs_any A0 ss.length k0 ss A nt kt text W (hS.below hb) hT hnt rfl hbt (by omega) (hL.below hb))
 have ME:=Lib.hid (fun W (hb:Below w.heap.size w W) (hst:StF ms) (hco:CodesOk ms) (hh:NoHg ms)=>measure_any A0 ss.length k0 A1 ms.length k1 A2 rs.length k2 ms W (hM.below hb) rfl hst hco hh z1)
 have N0:=Lib.hid (fun h=>nErr_c (x:=⟨ss,ms,rs⟩) h)
 have N1:=Lib.hid (fun h1 h2=>nErr_m (x:=⟨ss,ms,rs⟩) h1 h2)
 have N2:=Lib.hid (fun h1 h2 h3=>nErr_s (x:=⟨ss,ms,rs⟩) h1 h2 h3)
 have N3:=Lib.hid (fun (c:Ck3 ⟨ss,ms,rs⟩) h=>c.twice h)
 have N4:=Lib.hid (fun (c:Ck4 ⟨ss,ms,rs⟩) h=>c.kind h)
 have N5:=Lib.hid (fun (c:Ck5 ⟨ss,ms,rs⟩) h=>c.data h)
 have N6:=Lib.hid (fun (c:Ck6 ⟨ss,ms,rs⟩)=>c.rest)
 dsimp only at N0 N1 N2 N3 N4 N5 N6
 generalize nErr ⟨ss,ms,rs⟩=r at *
 have HM:=Lib.hid hM
 clear hM hS hR hz hL
 have B0:Below w.heap.size w (w.alloc (.cells #[.slice A0 ss.length k0,.slice A1 ms.length k1,.slice A2 rs.length k2] 28)):=(Below.refl _ _).alloc (Nat.le_refl _) _
 have X0:Box (w.alloc (.cells #[.slice A0 ss.length k0,.slice A1 ms.length k1,.slice A2 rs.length k2] 28)) w.heap.size 28 [.slice A0 ss.length k0,.slice A1 ms.length k1,.slice A2 rs.length k2]:=Box.new _ _ _ rfl
 have W0E:∃W0,(w.alloc (.cells #[.slice A0 ss.length k0,.slice A1 ms.length k1,.slice A2 rs.length k2] 28))=W0:=⟨_,rfl⟩
 go_enter Tryz.func84,Tryz.ntmps84
 go_wp2_with fail
 obtain ⟨W0,hW0⟩:=W0E
 rw [hW0] at B0 X0 ⊢
 clear hW0
 have s0:w.heap.size < W0.heap.size:=X0.lt
 have Q:=Lib.hid (fun W (hb:Below W0.heap.size W0 W)=>show W.cell? ⟨w.heap.size,0,none⟩=some (.slice A0 ss.length k0)∧W.cell? ⟨w.heap.size,1,none⟩=some (.slice A1 ms.length k1)∧W.cell? ⟨w.heap.size,2,none⟩=some (.slice A2 rs.length k2) from
  have X:=X0.below hb s0
  ⟨X.cell rfl,X.cell rfl,X.cell rfl⟩)
 have BB:=Lib.hid (fun W (hb:Below W0.heap.size W0 W)=>B0.trans (hb.mono B0.size))
 clear X0
 with_reducible refine (CC.out _ B0).mono ?_
 rintro e W1 ⟨rfl,hb1⟩
 obtain ⟨q0,q1,q2⟩:=Q.out W1 hb1
 generalize hc:chk ss=c at *
 have HC:=Lib.hid hc
 clear hc CC
 by_cases h0:¬c=0
 ·go_wp2_with fail
  go_ret
  exact ⟨ret_int (N0.out h0).symm,BB.out _ hb1⟩
 replace h0:=Decidable.not_not.1 h0
 subst h0
 clear N0
 go_wp2_with fail
 with_reducible refine (MC.out _ (BB.out _ hb1)).mono ?_
 rintro e W2 ⟨rfl,hb2⟩
 replace hb2:=hb1.trans (hb2.mono hb1.size)
 clear q0 q1 q2 hb1 MC
 obtain ⟨q0,q1,q2⟩:=Q.out W2 hb2
 generalize hc:mapErr ms=c at *
 have HMC:=Lib.hid hc
 clear hc
 by_cases h0:¬c=0
 ·go_wp2_with fail
  go_ret
  exact ⟨ret_int (N1.out (by trivial) h0).symm,BB.out _ hb2⟩
 replace h0:=Decidable.not_not.1 h0
 subst h0
 clear N1
 go_wp2_with fail
 with_reducible refine (VC.out _ (BB.out _ hb2)).mono ?_
 rintro e W3 ⟨rfl,hb3⟩
 replace hb3:=hb2.trans (hb3.mono hb2.size)
 clear q0 q1 q2 hb2 VC
 obtain ⟨q0,q1,q2⟩:=Q.out W3 hb3
 generalize hc:setOk rs=c at *
 have HSC:=Lib.hid hc
 clear hc
 cases c with
 | false=>
  go_wp2_with fail
  go_ret
  exact ⟨ret_int (N2.out (by trivial) (by trivial) (by trivial)).symm,BB.out _ hb3⟩
 | true=>
 have C3:=Lib.hid (show Ck3 ⟨ss,ms,rs⟩ from ⟨HC.out,HMC.out,HSC.out⟩)
 clear N2 HC HSC
 go_wp2_with fail
 clear q0 q1 q2
 go_loopw [5] (fun u wr=>∃i:Nat,i≤ms.length∧u=.int .i64 ((i:Int)+1)∧(∀t,(ht:t+1 < ms.length)→t < i→¬ms[t+1].frm=ms[t].frm)∧Below W0.heap.size W0 wr) (fun u _=>ms.length+1 - (intOf u).toNat)
 case atStart=>exact ⟨0,Nat.zero_le _,rfl,fun t _ h=>absurd h (Nat.not_lt_zero _),hb3⟩
 case round=>
  obtain ⟨i,hi,rfl,h1,hb⟩:=hrel
  have H1:=Lib.hid h1
  clear h1
  obtain ⟨q0,q1,q2⟩:=Q.out wr hb
  by_cases hlt:i+1 < ms.length
  ·obtain ⟨b,o,rfl,_,hcell⟩:=(HM.out.below (BB.out _ hb)).at hlt
   obtain ⟨E,d,c1,c2,c3,_,_⟩:=hcell i (by omega)
   obtain ⟨E',d',c1',c2',c3',_,_⟩:=hcell (i+1) hlt
   clear hcell
   have hi0:i < ms.length:=by omega
   have HS:=Lib.hid (fun (h:ms[i+1].frm=ms[i].frm)=>stB_no hi0 hlt (Nat.lt_succ_self i) h)
   have HN:=Lib.hid (fun (h:¬ms[i+1].frm=ms[i].frm)=>show ∀t,(ht:t+1 < ms.length)→t < i+1→¬ms[t+1].frm=ms[t].frm from fun t ht g=>by
    by_cases e:t=i
    ·subst e;exact h
    ·exact H1.out t ht (by omega))
   generalize ms[i].frm=f at *
   generalize ms[i].to.length=tl at *
   generalize ms[i].tag=tg at *
   generalize ms[i+1].frm=f' at *
   generalize ms[i+1].to.length=tl' at *
   generalize ms[i+1].tag=tg' at *
   clear HM
   by_cases heq:f'=f
   ·have HR:=Lib.hid (N3.out C3.out (HS.out heq))
    go_wp2_with fail
    go_region
    all_goals
     go_wp2_with fail
     go_ret
     exact ⟨ret_int HR.out.symm,BB.out _ hb.drew⟩
   ·have HR:=Lib.hid (HN.out heq)
    go_wp2_with fail
    go_region
    all_goals
     go_wp2_with fail
     go_roundw
     case rel=>exact ⟨i+1,by omega,by go_num,HR.out,hb.drew⟩
     case measure=>simp [intOf];omega
  ·have hst:=Lib.hid (show stB ms=true from stB_of HMC.out (fun k hk=>H1.out k hk (by omega)))
   have C4:=Lib.hid (show Ck4 ⟨ss,ms,rs⟩ from ⟨C3.out,hst.out⟩)
   clear N3 C3 H1 hst
   go_wp2_with fail
   clear q0 q1 q2
   go_loopw [53] (fun u wr=>∃i:Nat,i≤ms.length∧u=.int .i64 i∧(∀t,(ht:t < ms.length)→t < i→kindB ms[t]=false)∧Below W0.heap.size W0 wr) (fun u _=>ms.length - (intOf u).toNat)
   case atStart=>exact ⟨0,Nat.zero_le _,rfl,fun t _ h=>absurd h (Nat.not_lt_zero _),hb⟩
   case round=>
    clear hb
    obtain ⟨i,hi,rfl,hno,hb⟩:=hrel
    have HNO:=Lib.hid hno
    clear hno
    obtain ⟨q0,q1,q2⟩:=Q.out wr hb
    by_cases hlt:i < ms.length
    ·obtain ⟨b1,o1,rfl,hbl,hcell⟩:=(HM.out.below (BB.out _ hb)).at hlt
     obtain ⟨C,cc,c0,c1,c2,hcc,hC⟩:=hcell i hlt
     have HB:=Lib.hid (fun h=>N4.out C4.out (anyT hlt h))
     have HN:=Lib.hid (fun h=>all_up (P:=fun m=>kindB m=false) hlt HNO.out h)
     clear hcell hC
     generalize ms[i]=mi at *
     have K1:=Lib.hid (fun (h:¬mi.tag.size=0)=>show kindB mi=false from by simp [kindB,h])
     have K2:=Lib.hid (fun (h:mi.to.length=1)=>show kindB mi=false from by simp [kindB,h])
     have K3:=Lib.hid (fun (h:mi.to.length=2)=>show kindB mi=false from by simp [kindB,h])
     have K4:=Lib.hid (fun (h:mi.tag.size=0) (h1:¬mi.to.length=1) (h2:¬mi.to.length=2)=>show kindB mi=true from by simp [kindB,h,h1,h2])
     generalize kindB mi=kb at *
     obtain ⟨mf,mt,mg⟩:=mi
     dsimp only at *
     clear HM
     have hb2:=hb.trans (((Below.refl wr.heap.size wr).alloc (Nat.le_refl _) (.cells #[.int .i64 mf,.slice C mt.length cc,.string mg] 154)).mono hb.size)
     by_cases hg:mg.size=0
     ·have g0:mg.toList=[]:=str_nil hg
      by_cases h1:mt.length=1
      ·have HQ:=Lib.hid (HN.out (K2.out h1))
       have d1:(mt.length:Int)=1:=by omega
       clear h1
       go_wp2_with fail
       go_roundw
       case rel=>exact ⟨i+1,by omega,by go_num,HQ.out,hb2⟩
       case measure=>simp [intOf];omega
      ·have d1:((mt.length:Int) != 1)=true:=by simp;omega
       by_cases h2:mt.length=2
       ·have HQ:=Lib.hid (HN.out (K3.out h2))
        have d2:((mt.length:Int) != 2)=false:=by simp;omega
        have hb2':=Lib.hid hb2
        clear h2
        go_wp2_with fail
        go_roundw
        case rel=>exact ⟨i+1,by omega,by go_num,HQ.out,hb2⟩
        case measure=>simp [intOf];omega
       ·have HR:=Lib.hid (HB.out (K4.out hg h1 h2))
        have d2:((mt.length:Int) != 2)=true:=by simp;omega
        go_wp2_with fail
        go_ret
        exact ⟨ret_int HR.out.symm,BB.out _ hb2⟩
     ·have g0:¬mg.toList=[]:=str_cons hg
      have g1:mg.toList.isEmpty=false:=by simpa using g0
      have HQ:=Lib.hid (HN.out (K1.out hg))
      go_wp2_with fail
      go_roundw
      case rel=>exact ⟨i+1,by omega,by go_num,HQ.out,hb2⟩
      case measure=>simp [intOf];omega
    ·have C5:=Lib.hid (show Ck5 ⟨ss,ms,rs⟩ from ⟨C4.out,show ms.any kindB=false from anyF (fun t ht=>HNO.out t ht (by omega))⟩)
     have C4':=Lib.hid (show Ck4 ⟨ss,ms,rs⟩ from C4.out)
     clear C4 N4 HNO
     have N5':=Lib.hid (fun h=>N5.out C5.out h)
     clear N5
     go_wp2_with fail
     clear q0 q1 q2
     have B1:W0.heap.size≤W0.heap.size:=Nat.le_refl _
     go_loopw [8,76] (fun v u wr=>∃(i c:Nat) (B:Option Addr),i≤ms.length∧u=.int .i64 i∧v=.slice B (taggedM (ms.take i)).length c∧wr.ownsRow W0.heap.size 3 1 (.slice B (taggedM (ms.take i)).length c) (taggedM (ms.take i)).length ((taggedM (ms.take i)).map (Value.int .i64))∧
      (∀t,(ht:t < ms.length)→t < i→Hg.kind ms[t].frm=0)∧Below W0.heap.size W0 wr) (fun _ u _=>ms.length - (intOf u).toNat)
     case atStart=>exact ⟨0,0,none,Nat.zero_le _,rfl,rfl,World.ownsRow_nil _ _ _ _,fun t _ h=>absurd h (Nat.not_lt_zero _),hb⟩
     case round=>
      clear hb
      obtain ⟨i,c,B,hi,rfl,rfl,hown,hno,hb⟩:=hrel
      have HNO:=Lib.hid hno
      have HOWN:=Lib.hid hown
      clear hno hown
      obtain ⟨q0,q1,q2⟩:=Q.out wr hb
      by_cases hlt:i < ms.length
      ·obtain ⟨b1,o1,rfl,hbl,hcell⟩:=(HM.out.below (BB.out _ hb)).at hlt
       obtain ⟨C,cc,c0,c1,c2,hcc,hC⟩:=hcell i hlt
       have HB:=Lib.hid (fun h=>N5'.out (datB_kind hlt h))
       have HN:=Lib.hid (fun h=>all_up (P:=fun m=>Hg.kind m.frm=0) hlt HNO.out h)
       have HT:=Lib.hid (taggedM_take hlt)
       have hTL:=taggedM_len (ms.take i)
       rw [List.length_take] at hTL
       clear hcell hC
       generalize ms[i]=mi at *
       obtain ⟨mf,mt,mg⟩:=mi
       dsimp only at *
       clear HM
       have hb2:=hb.trans (((Below.refl wr.heap.size wr).alloc (Nat.le_refl _) (.cells #[.int .i64 mf,.slice C mt.length cc,.string mg] 154)).mono hb.size)
       have HOWNa:=Lib.hid (own_keep HOWN.out ((Below.refl wr.heap.size wr).alloc (Nat.le_refl _) (.cells #[.int .i64 mf,.slice C mt.length cc,.string mg] 154)))
       generalize hka:Hg.kind mf=ka at *
       have HK:=Lib.hid hka
       clear hka
       have KF:=Lib.hid (KC.out mf)
       rw [HK.out] at KF
       by_cases hk0:ka=0
       ·have HQ:=Lib.hid (HN.out hk0)
        subst hk0
        by_cases hg:mg.size=0
        ·have g0:mg.toList=[]:=str_nil hg
         have hT:=HT.out
         rw [if_pos hg,List.append_nil] at hT
         have HT2:=Lib.hid hT
         clear hT
         go_wp2_with (go_at_call 142;refine (KF.out _).mono ?_;rintro e w' ⟨rfl,rfl⟩)
         go_roundw
         case rel=>exact ⟨i+1,c,B,by omega,by go_num,by rw [HT2.out],by rw [HT2.out];exact HOWNa.out,HQ.out,hb2⟩
         case measure=>simp [intOf];omega
        ·have g0:¬mg.toList=[]:=str_cons hg
         have g1:mg.toList.isEmpty=false:=by simpa using g0
         have hT:=HT.out
         rw [if_neg hg] at hT
         have HT2:=Lib.hid hT
         clear hT
         go_wp2_with (first | (go_at_call 142;refine (KF.out _).mono ?_;rintro e w' ⟨rfl,rfl⟩) | (at_builtin;(refine wpList_app _ _ 33 3 (.int .i64 0) 1 8 rfl rfl Tryz.underlying33 info_int rfl (by decide) (by decide) rfl (HOWNa.out.alloc _) rfl (Sl_new (wr.alloc (.cells #[.int .i64 mf,.slice C mt.length cc,.string mg] 154)) [.int .i64 mf] 3 (by simp)) (by simp) (oneCell_ints [mf]) (by omega) (by have:=hb2.size;simp at this ⊢;omega) ?_);intro B1 c1' w1 hown1 hc1' hb1 hg1 hB1))
         have hb3:=hb2.trans ((((Below.refl _ _).alloc (Nat.le_refl _) _).mono hb2.size).trans hb1)
         go_roundw
         case rel=>
          refine ⟨i+1,c1',B1,by omega,by go_num,?_,?_,HQ.out,hb3⟩
          ·rw [HT2.out,List.length_append];rfl
          ·rw [HT2.out,List.length_append,List.map_append];exact hown1
         case measure=>simp [intOf];omega
       ·have HR:=Lib.hid (HB.out hk0)
        go_wp2_with (go_at_call 142;refine (KF.out _).mono ?_;rintro e w' ⟨rfl,rfl⟩)
        go_ret
        exact ⟨ret_int HR.out.symm,BB.out _ hb2⟩
      ·obtain rfl:i=ms.length:=by omega
       have hT:taggedM (ms.take ms.length)=taggedM ms:=by rw [List.take_length]
       have hTL:=taggedM_len ms
       have HI:Ints wr B (taggedM ms):=by rw [hT] at HOWN;exact Sl.of_own HOWN.out
       rw [hT]
       have HA:=Lib.hid (fun (h:rns (clz ss) (taggedM ms) 0 none=[])=>show Ck6 ⟨ss,ms,rs⟩ from ⟨C5.out,show ms.any (datB ss)=false from datB_of (fun t ht=>HNO.out t ht ht) h⟩)
       have HD:=Lib.hid (fun (h:¬rns (clz ss) (taggedM ms) 0 none=[])=>N5'.out (datB_yes h))
       have RR:=Lib.hid (RC.out B (taggedM ms).length c (taggedM ms) wr (BB.out _ hb) HI rfl (by omega))
       clear HI HOWN hT
       generalize taggedM ms=tg at *
       generalize rns (clz ss) tg 0 none=rr at *
       go_wp2_with fail
       with_reducible refine RR.out.mono ?_
       rintro e W4 ⟨A4,c4,rfl,hc4,hA4,hb4⟩
       replace hb4:=hb.trans (hb4.mono hb.size)
       clear q0 q1 q2
       obtain ⟨q0,q1,q2⟩:=Q.out W4 hb4
       by_cases hr0:rr=[]
       ·have C6:=Lib.hid (HA.out hr0)
        have hl:rr.length=0:=by rw [hr0];rfl
        have MM:=Lib.hid (ME.out W4 (BB.out _ hb4) (StF_of C4'.out.t) (mapErr_codes C4'.out.m) (NoHg_of C6.out.d))
        have FIN:=Lib.hid (fun cyc lng (h:MeasOk ms cyc lng)=>show r=if cyc=true then 12 else if lng=true then 13 else 0 from by
         have h1:=h.cyc (StF_of C4'.out.t) (NoHg_of C6.out.d)
         rw [N6.out C6.out]
         cases he:endB ms with
         | false=>rw [he] at h1;subst h1;rfl
         | true=>rw [he] at h1;subst h1;rw [h.lng (StF_of C4'.out.t) (NoHg_of C6.out.d) he];simp)
        clear hr0
        rw [hl]
        go_wp2_with fail
        with_reducible refine MM.out.mono ?_
        rintro e W5 ⟨cyc,lng,rfl,hok,hb5⟩
        replace hb5:=hb4.trans (hb5.mono hb4.size)
        have HF:=Lib.hid (FIN.out cyc lng hok)
        clear q0 q1 q2 hok FIN MM
        cases cyc with
        | true=>
         go_wp2_with fail
         go_ret
         exact ⟨ret_int HF.out.symm,BB.out _ hb5⟩
        | false=>
         cases lng with
         | true=>
          go_wp2_with fail
          go_ret
          exact ⟨ret_int HF.out.symm,BB.out _ hb5⟩
         | false=>
          go_wp2_with fail
          go_ret
          exact ⟨ret_int HF.out.symm,BB.out _ hb5⟩
       ·have HR:=Lib.hid (HD.out hr0)
        have hl:0 < rr.length:=List.length_pos_iff.2 hr0
        have hl2:decide ((0:Int) < (rr.length:Int))=true:=by simp;omega
        go_wp2_with fail
        go_ret
        exact ⟨ret_int HR.out.symm,BB.out _ hb4⟩
end Go.Proofs.YtkhmjidaeliccaaGreatDoor
