import Derived.Test.YtkhmjidaeliccaaGreatDoorD00
import Derived.Test.YtkhmjidaeliccaaGreatDoorD01
import Derived.Test.YtkhmjidaeliccaaGreatDoorD04
import Derived.Test.YtkhmjidaeliccaaGreatDoorD05
import Derived.Test.YtkhmjidaeliccaaGreatDoorD06
import Derived.RangeFuncBox
import Derived.Maps.AppendAt
import Derived.Maps.OwnIn
import Derived.Deep.AppendLies
import Derived.Deep.RegionLaw
import Derived.Laws.OwnMore
import Derived.Laws.StructEq
import Derived.BigQuiet
import Derived.Test.YtkhmjidaeliccaaGreatDoorRows
import Derived.Deep.Slices
import Derived.Deep.DeepHandedRow
import Derived.Lib.LaidTab
set_option maxRecDepth 100000
set_option maxHeartbeats 51200000
namespace Go.Proofs.YtkhmjidaeliccaaGreatDoor
open Option renaming none->N,some->Z
open Value renaming int->I,slice->H
open IntKind renaming i64->J
open Go.Proofs.Tryz
section
open Go.RowKit Go.Shelf
attribute [local go_sem] Oper.semAt_some
def lV(rs:List (Nat×Nat)):Lv:=rs.flatMap fun r=>[I J (r.1:Int),I J (r.2:Int)]
theorem JI(rs:List (Nat×Nat))(x:Nat×Nat):lV (rs++[x])=lV rs++[I J (x.1:Int),I J (x.2:Int)]:=by simp[lV]
def qC(rs:List (Nat×Nat))(w:Wv)(e:Ending)(w':Wv):Prop:=∃A c,e=.returned (H A rs.length c)/\rs.length<=c/\Sl w' A (lV rs)/\By w w'
theorem LW:(prog.info? 179).map (fun i=>(i.zero,i.size,i.bytes))=Z (Z (.agg #[I J 0,I J 0]),2,16):=by kernel_rfl
theorem nD{n₀ bo:Nat}{W W':Wv}(h:Below n₀ W W'):fO n₀ bo W W':=⟨h.size,fun k hk _=>h.block k hk⟩
theorem Mem.lt_bt{Bt Bs:Nat}{A:Oa}{nt kt:Nat}{text:Li}{A':Oa}{ns ks:Nat}{ss:List Spn}{W:Wv}(h:Mem Bt Bs A nt kt text A' ns ks ss W):Bt<W.heap.size:=World.block_lt_of_cell? W _ h.bt
theorem Mem.lt_bs{Bt Bs:Nat}{A:Oa}{nt kt:Nat}{text:Li}{A':Oa}{ns ks:Nat}{ss:List Spn}{W:Wv}(h:Mem Bt Bs A nt kt text A' ns ks ss W):Bs<W.heap.size:=World.block_lt_of_cell? W _ h.bs
theorem Sl.lt{W:Wv}{A:Oa}{cs:Lv}(h:Sl W A cs)(hne:cs≠[])(bo:Nat)(hbo:W.heap.size<=bo):gU W.heap.size bo A:=by
 intro b o hA;obtain⟨b',o',hA',hc⟩:=h hne;rw[hA]at hA';injection hA' with hA';injection hA' with h1 h2;subst h1;subst h2;obtain⟨x,r,rfl⟩:∃x r,cs=x::r:=by cases cs with|nil=>exact absurd rfl hne|cons x r=>exact⟨x,r,rfl⟩
 have:=World.block_lt_of_cell? W _ (hc 0 x rfl);simp at this;exact⟨this,by omega⟩
theorem AQ(Bt Bs:Nat)(A:Oa)(nt kt:Nat)(text:Li)(A':Oa)(ns ks:Nat)(ss:List Spn)(all:List (Nat×Nat))(w:Wv)
  (hall:rns (cls ss) text 0 N=all) (hnt:text.length=nt) (hns:ss.length=ns) (hb1:nt<=1048576) (hb2:ns<=1099511627776) (hasc:Asc ss) (hM:Mem Bt Bs A nt kt text A' ns ks ss w) :
  Calls prog 199 #[H N 0 0,.func (.func 166) #[] #[.pointer (Z ⟨Bt,0,N⟩),.pointer (Z ⟨Bs,0,N⟩)]] w (qC all w):=by
 have hlen:all.length<=1048576:=by rw[<-hall];have:=SW (cls ss) text 0;omega
 obtain⟨i0,hi0,hz0,hz1,hz2⟩:=info_parts LW;refine(callsIn_wide (n:=6)).1 ?_;refine callsIn_of_wp_marks func199 rfl trivial ?_ rfl;simp only[ntmps199,List.size_toArray,List.length_cons,List.length_nil,Nat.reduceAdd,Nat.reduceSub,Array.replicate_succ,Array.replicate_zero,List.push_toArray,List.append_toArray,List.nil_append,List.cons_append];gi_wp2;have bS:=Boxed.new w 24 (H N 0 0);have hB0:By w (w.alloc (.cells #[H N 0 0] 24)):=(Below.refl _ w).alloc (Nat.le_refl _) _;have hsz:(w.alloc (.cells #[H N 0 0] 24)).heap.size=w.heap.size+1:=by simp
 have hM0:=hM.below hB0;obtain⟨W0,hW0⟩:∃W0,w.alloc (.cells #[H N 0 0] 24)=W0:=⟨_,rfl⟩;rw[hW0]at bS hB0 hsz hM0|-;clear hW0
 refine wpIn_rangeFunc_ownH rfl (by omega) (gf:=166) (lb:=#[.pointer (Z ⟨Bt,0,N⟩),.pointer (Z ⟨Bs,0,N⟩)]) rfl trivial (enters_of func166 (by kernel_rfl) rfl)
  (yX (fun x=>x) 5 (by omega) w.heap.size w.heap.size Bt Bs A nt kt text A' ns ks ss all W0 (by rw[hall];simp) hnt hns (by omega) hb2 hasc ⟨hM.lt_bt,by have:=hM.lt_bt;omega⟩ ⟨hM.lt_bs,by have:=hM.lt_bs;omega⟩
   (fun hne=>Sl.lt hM.tx (by simpa using hne) _ (Nat.le_refl _)) (fun hne=>Sl.lt hM.sp (by cases ss with|nil=>exact absurd rfl hne|cons s r=>simp[fR]) _ (Nat.le_refl _)) hM0)
  (fun h k=>h.trans k) (fun W l o o' hl h hc hw=>nD (belowK_b (w:=W0) (by omega) W l o o' hl h hc hw)) (Below.refl _ _) (fun _=>rfl)
  (fun pre W=>(∃v,Boxed W w.heap.size 24 v/\W.ownsRow w.heap.size 179 2 v pre.length (lV pre)/\True)/\By w W)
  (fun _ _ _=>False)
  (OwnFrom.and (Own.from (holdsRow_own w.heap.size w.heap.size 24 179 2 (fun pre:List (Nat×Nat)=>pre.length) lV (fun _ _=>True)) _) (ownFrom_below (Nat.le_refl _) (by omega)))
  (fun _ _ _ _ _ hs _ _=>hs)
  ⟨⟨_,bS,World.ownsRow_nil _ _ _ _,trivial⟩,hB0⟩
  (fun x a' W=>∃Bx,w.heap.size<Bx/\W.heap[Bx]?=Z (.cells #[I J (x.1:Int),I J (x.2:Int)] 179 (0,0))/\a'={ tmps:=#[H N 0 0,.func (.func 166) #[] #[.pointer (Z ⟨Bt,0,N⟩),.pointer (Z ⟨Bs,0,N⟩)],.pointer (Z ⟨w.heap.size,0,N⟩),undef,H N 0 0,.pointer (Z ⟨Bx,0,N⟩),.func (.func 166) #[] #[.pointer (Z ⟨Bt,0,N⟩),.pointer (Z ⟨Bs,0,N⟩)],.agg #[I J (x.1:Int),I J (x.2:Int)],undef,undef,undef,undef,undef],defers:=[] })
  (fun x a' _ X Y row hs hg hr=>by
   obtain⟨Bx,h1,h2,h3⟩:=hs
   refine⟨Bx,h1,(hg.block Bx (Array.getElem?_eq_some_iff.1 h2).1 (fun e=>?_)).trans h2,h3⟩
   obtain⟨_,o,ho,hc⟩:=hr Bx e.symm
   rw[h2]at ho;cases ho;cases hc)
  ?assign ?body ?done ?stop
 case assign=>
  rintro l pre x W K ⟨⟨v,bS1,hr1,_⟩,hB1⟩ hK;unfold lS at *;gi_wp2;exact hK _ _ ((KeepsOthers.alloc _ _).from _) (nD ((Below.refl _ W).alloc hB1.size _)) ⟨⟨v,bS1.alloc _,hr1.alloc _,trivial⟩,hB1.alloc hB1.size _⟩ ⟨W.heap.size,bS1.lt,heap_alloc_new W _,rfl⟩
 case body=>
  rintro l pre x a' W hl ⟨r,hr⟩ ⟨⟨v,bS1,hr1,_⟩,hB1⟩ ⟨Bx,hBx,bX,rfl⟩ hlt;obtain⟨Av,cv,rfl,hcv⟩:=fX hr1;have cS:=bS1.cell;have fS:=bS1.frozen;have x0:W.cell? ⟨Bx,0,N⟩=Z (I J (x.1:Int)):=by rw[cell_of_row W Bx 0 _ _ (0,0) bX];rfl
  have x1:W.cell? ⟨Bx,1,N⟩=Z (I J (x.2:Int)):=by rw[cell_of_row W Bx 1 _ _ (0,0) bX];rfl
  have hltS:=bS1.lt;gi_wp2_with (gi_at_builtin;refine wpListIn_append_own _ rfl _ _ 24 rfl w.heap.size 179 i0 (.agg #[I J 0,I J 0]) 2 16 underlying24 hi0 hz0 hz1 hz2 rfl (by decide) _ _ _ rfl (hr1.alloc _) ⟨W.heap.size,0,N⟩ 1 1 [I J (x.1:Int),I J (x.2:Int)] rfl rfl ?c1 (dJ [_,_]) (by unfold maxLen;omega) (by omega) (by have:=hB1.size;simp;omega) ?_)
  case c1=>
   intro j u hu;match j,hu with
   |0,hu=>simp at hu;subst hu;simp[Addr.add]
   |1,hu=>simp at hu;subst hu;simp[Addr.add]
  intro v' w1 hown' hgrow _;obtain⟨Av',cv',rfl,hcv'⟩:=fX hown';obtain⟨hv1,hv2,hr2,hk2,hb2⟩:=bS1.appended (by decide) hr1 hB1.size (Nat.le_refl _) hown' hgrow;have hc1:=hv1.cell;have hf1:=hv1.frozen;clear hown' hgrow cS fS x0 x1 hr1 bX bS1;gi_wp2;refine⟨hk2.from _,nD hb2,⟨_,hv2,?_,trivial⟩,hB1.trans hb2⟩;rw[JI,List.length_append];exact hr2
 case done=>
  rintro D ys W hD rfl ⟨⟨v,bS1,hr1,_⟩,hB1⟩ hK;obtain⟨Av,cv,rfl,hcv⟩:=fX hr1;have cS:=bS1.cell;have HRow:=G (ownsRow_putObj hr1 (.deferred N) hK rfl);have HBel:=G (hB1.trans (belowK_b (w:=w) (Nat.le_refl _) W D _ (.deferred N) (by omega) hK rfl rfl));gi_wp2;refine⟨by simp,.inl ⟨_,_,rfl,run_takeDeferred hK,?_⟩⟩;exact⟨_,results_tmp rfl _ _ _,Av,cv,rfl,hcv,Sl.of_own HRow.out,HBel.out⟩
 rintro D c pre W _ _ h _;exact h.elim
theorem AR(Bt Bs:Nat)(A:Oa)(nt kt:Nat)(text:Li)(A':Oa)(ns ks:Nat)(ss:List Spn)(all:List (Nat×Nat))(w:Wv)
  (hall:rns (cls ss) text 0 N=all) (hnt:text.length=nt) (hns:ss.length=ns) (hb1:nt<=1048576) (hb2:ns<=1099511627776) (hasc:Asc ss) (hM:Mem Bt Bs A nt kt text A' ns ks ss w) :
  Calls prog 180 #[.func (.func 166) #[] #[.pointer (Z ⟨Bt,0,N⟩),.pointer (Z ⟨Bs,0,N⟩)]] w (qC all w):=by
 have C:=G (AQ Bt Bs A nt kt text A' ns ks ss all w hall hnt hns hb1 hb2 hasc hM);clear hall hnt hns hasc hM;go_enter func180,ntmps180;go_wp2_with fail;refine C.out.mono ?_;rintro e w1 ⟨A1,c1,rfl,hc1,hA1,hb1⟩;go_wp2_with fail;go_ret;exact⟨A1,c1,rfl,hc1,hA1,hb1⟩
theorem BR(A':Oa)(ns ks:Nat)(ss:List Spn)(A:Oa)(nt kt:Nat)(text:Li)(w:Wv)(hS:bD w A' ss)(hT:aB w A text)
  (hnt:text.length=nt) (hns:ss.length=ns) (hb1:nt<=1048576) (hb2:ns<=1099511627776) (hL:cK w) :
  Calls prog 143 #[H A' ns ks,H A nt kt] w (qC (rns (clz ss) text 0 N) w):=by
 have hle:=AD ss;rw[hns]at hle;have U:=G (AE A' ns ks ss w hS hns hb2 hL);have hasc:=G (AC ss);have hcl:clz ss=cls (us ss):=rfl;rw[hcl];clear hS hL hns hcl;generalize us ss=ts at *;go_enter func143,ntmps143;go_wp2_with fail;refine U.out.mono ?_;rintro e w1 ⟨A1,k1,rfl,hA1,hb3⟩;have hT1:=hT.below hb3;clear hT U;go_wp2_with fail;refine(yW A nt kt A1 ts.length k1 w1).mono ?_;rintro e w2 ⟨rfl,hw2⟩;have hM:Mem (w1.heap.size+1) w1.heap.size A nt kt text A1 ts.length k1 ts w2:=by
  rw[<-hw2];exact⟨by simp,by simp,Sl.alloc (Sl.alloc hT1 _) _,Sl.alloc (Sl.alloc hA1 _) _⟩
 have hb4:By w w2:=by
  rw[<-hw2];exact(hb3.alloc hb3.size _).alloc (by have:=hb3.size;simp;omega) _
 have HM:=G hM;clear hw2 hM hT1 hA1 hb3;go_wp2_with fail;refine(AR (w1.heap.size+1) w1.heap.size A nt kt text A1 ts.length k1 ts _ w2 rfl hnt rfl hb1 (by omega) hasc.out HM.out).mono ?_;rintro e w3 ⟨A3,c3,rfl,hc3,hA3,hb5⟩;go_wp2_with fail;go_ret;exact⟨A3,c3,rfl,hc3,hA3,hb4.trans (hb5.mono hb4.size)⟩
end
section
open Go.RowKit Go.Maps Go.WideMaps
theorem RO(A:Oa)(n a:Nat)(w:Wv)(hb:n<=9223372036854775807):
  Calls prog 83 #[.agg #[H A n a]] w (eD (decide (n<=12)) w):=by
 go_enter func83,ntmps83;go_wp2_with fail;go_ret;exact⟨cR (by rw[Bool.eq_iff_iff];simp;try omega),ba _ _⟩
def CZ(l:Li)(n:Int):Bool:=l.any (fun x=>decide (n<=x))
def plk(l:Li)(n:Int)(k:Nat):Li:=if CZ (l.take k) n=true then dS (l.take k) n else l.take k
section
variable {l:Li}{n:Int}{k:Nat}
theorem plk_len:(plk l n k).length<=k+1:=by
 have:∀(s:Li),(dS s n).length<=s.length+1:=by
  intro s;induction s with
  |nil=>simp[dS]
  |cons y r ih=>
   simp only[dS];split
   ·split<;>simp
   simp only[List.length_cons];omega
 unfold plk;split
 ·have h:=this (l.take k)
  have:=List.length_take_le k l;omega
 have:=List.length_take_le k l;omega
end
theorem sQ(l:Li)(n:Int):(dS l n).length<=l.length+1:=by
 induction l with
 |nil=>simp[dS]
 |cons y r ih=>
  simp only[dS];split
  ·split<;>simp
  simp only[List.length_cons];omega
end
section
open Go.RowKit
variable {P:Program}{w:Wv}
end
section
open Go.RowKit Go.Maps Go.WideMaps
def BJ(l:Li)(w:Wv)(e:Ending)(w':Wv):Prop:=∃E d,e=.returned (H E l.length d)/\l.length<=d/\aB w' E l/\By w w'
theorem eS.is{l:Li}{w:Wv}{e:Ending}{w':Wv}(h:eS l w e w'):BJ l w e w':=by
 obtain⟨A,c,h1,h2,h3⟩:=h;obtain⟨_,_,hv,hc⟩:=fX h2;injection hv with _ _ hv;subst hv;exact⟨A,c,h1,hc,Sl.of_own h2,h3⟩
theorem GR(l:Li)(r:Rg):(jD l r).length<=l.length+2:=by
 unfold jD;dsimp only;have h1:(if inR 0 1114111 r.lo=true then dS l r.lo else l).length<=l.length+1:=by
  split
  ·exact sQ _ _
  omega
 split
 ·have:=sQ (if inR 0 1114111 r.lo=true then dS l r.lo else l) (r.hi+1);omega
 omega
theorem JQ(rs:List Rg)(l:Li):(rs.foldl jD l).length<=l.length+2*rs.length:=by
 induction rs generalizing l with
 |nil=>simp
 |cons r rs ih=>
  have:=ih (jD l r);have:=GR l r;simp only[List.foldl_cons,List.length_cons];omega
theorem vB(rs:List Rg)(l:Li):(dK l rs).length<=l.length+2*rs.length+1:=by
 unfold dK;have:=sQ (rs.foldl jD l) 0;have:=JQ rs l;omega
section
variable {p:Int->Bool}{cs:Li}{i:Nat}
theorem uJ:∀i,(bld p cs i).1.length<=i
 |0=>Nat.le_refl _
 |i+1=>by
  have ih:=uJ i;simp only[bld];split
  ·dsimp only
   split
   ·rw[vZ];omega
   rw[List.length_append];simp;omega
  dsimp only;omega
end
theorem JN(d:List Rg)(i:Nat)(h:Int){x:Rg}(hx:d[i]?=Z x):(aE Rg.cells d).set (i*2+1) (I J h)=aE Rg.cells (d.set i ⟨x.lo,h⟩):=by
 induction d generalizing i with
 |nil=>simp at hx
 |cons y r ih=>
  cases i with
  |zero=>simp at hx;subst hx;simp[aE,Rg.cells]
  |succ i=>
   have h1:=ih i (by simpa using hx);simp only[aE,List.flatMap_cons,Rg.cells,List.cons_append,List.nil_append,List.set_cons_succ]at *;rw[show(i+1)*2=i*2+1+1 by omega];simp only[List.set_cons_succ,h1]
theorem rR:(prog.info? 179).map (fun i=>(i.zero,i.size,i.bytes))=Z (Z (.agg #[I J 0,I J 0]),2,16):=by kernel_rfl
theorem sL(r:Rg):∀u∈Rg.cells r,u.oneCell'=true:=by
 intro u hu;simp only[Rg.cells,List.mem_cons,List.not_mem_nil,or_false]at hu;rcases hu with rfl|rfl<;>rfl
theorem QN{w:Wv}{base:Nat}{e:TypeId}{size n c:Nat}{A:Oa}{xs:Lv}(h:w.ownsRow base e size (H A n c) n xs):n<=c:=by
 obtain⟨_,_,hv,hc⟩:=fX h;injection hv with _ _ hv;subst hv;exact hc
theorem QO{w:Wv}{base:Nat}{e:TypeId}{size n:Nat}{v:Value}{xs:Lv}(h:w.ownsRow base e size v n xs){p:Addr}(hp:p.block<base)(u:Value):(w.setCell p u).ownsRow base e size v n xs:=
 h.kept (bT w p u) (by
  cases hv:v.ownBlock with
  |none=>exact .inl rfl
  |some q=>
   right
   have:=(h.lt q hv).1
   intro e
   injection e with e
   omega)
def BL(rs:List Rg)(w:Wv)(e:Ending)(w':Wv):Prop:=∃E d,e=.returned (.agg #[H E rs.length d])/\rs.length<=d/\Rgs w' E rs/\By w w'
theorem xM(a b c d:Int)(w:Wv):(binOp .neq 179 (.agg #[I J a,I J b]) (.agg #[I J c,I J d])).run prog w=.ok (.bool (!decide ((⟨a,b⟩:Rg)=⟨c,d⟩))) w:=by
 have u3:=underlying3;have a3:=isAgg3;have z3:=sizeOf3;have hS:prog.underlying 179=Z (.struct (prog.fieldsOf 179)):=by kernel_rfl
 have hp:prog.stoodInHeld 179=false:=by kernel_rfl
 rw[run_neq_struct,show(10000:Nat)=9999+1 from rfl,run_equalIn_agg w 9999 179 _ _ hS hp];simp only[Program.fieldsOf,underlying179];go_simp;by_cases h2:a=c<;>by_cases h3:b=d<;>simp[h2,h3]
theorem TV{xs ys:List Rg}(h:xs.length≠ys.length):decide (xs=ys)=false:=by simp;exact fun e=>h (by rw[e])
theorem TY{xs ys:List Rg}{k:Nat}(h1:k<xs.length)(h2:k<ys.length)(h:¬xs[k]=ys[k]):decide (xs=ys)=false:=by simp;rintro rfl;exact h rfl
theorem TU{xs ys:List Rg}(hl:xs.length=ys.length)(h:∀t,(h1:t<xs.length)->(h2:t<ys.length)->xs[t]=ys[t]):decide (xs=ys)=true:=by simp;exact List.ext_getElem hl h
theorem EH(rs:List Rg):(gL rs).length<=2*rs.length+2:=by
 unfold gL;have h1:=uJ (p:=jG rs) (cs:=dK (dK [] rs) []) (dK (dK [] rs) []).length;have h2:(dK (dK [] rs) []).length<=(dK [] rs).length+2*0+1:=vB [] (dK [] rs);have h3:(dK [] rs).length<=0+2*rs.length+1:=vB rs [];omega
theorem NS(n:Nat)(h:n<=12)(w:Wv):Calls prog 220 #[.int .u64 n] w (fun e w'=>(∃z:Int,e=.returned (I J z))/\w=w'):=by
 obtain rfl|rfl|rfl|rfl|rfl|rfl|rfl|rfl|rfl|rfl|rfl|rfl|rfl:n=0\/n=1\/n=2\/n=3\/n=4\/n=5\/n=6\/n=7\/n=8\/n=9\/n=10\/n=11\/n=12:=by omega
 all_goals
  go_enter func220,ntmps220;go_wp2;go_ret;exact⟨⟨_,rfl⟩,rfl⟩
theorem wV(n:Nat)(h:n<=12)(w:Wv):Calls prog 208 #[.int .u64 n] w (fun e w'=>(∃z:Int,e=.returned (I J z))/\w=w'):=by
 have LC:=G (NS n h w);go_enter func208,ntmps208;go_wp2_with fail;refine LC.out.mono ?_;rintro e w' ⟨⟨z,rfl⟩,rfl⟩;go_wp2_with fail;go_ret;exact⟨⟨_,rfl⟩,rfl⟩
theorem VF(base g n c:Nat)(d:List Rg)(w:Wv)(hR:dD w base g n c d)(hbig:n<=12)(hok:∀x∈d,cV x):
  Calls prog 197 #[H (Z ⟨g,0,N⟩) n c,.func (.func 198) #[] #[]] w (qB (fun d'=>Srt.Done dM d d' 0 n) base g n c w):=by
 have LC:=G (wV n hbig w);have PC:=G (fun z=>QZ base g n c z d w hR hbig hok);have hu:IntKind.u64.wrap (n:Int)=(n:Int):=by rw[IntKind.wrap_u64];omega
 clear hR hok;go_enter func197,ntmps197;go_wp2_with fail;refine LC.out.mono ?_;rintro e w' ⟨⟨z,rfl⟩,rfl⟩;go_wp2_with fail;refine(PC.out z).mono ?_;rintro e w1 ⟨rfl,d1,hD,hR1,hg1⟩;have HD:=G (And.intro hD (And.intro hR1 hg1));clear hD hR1 hg1;go_wp2_with fail;go_end0;exact⟨rfl,d1,HD.out.1,HD.out.2.1,HD.out.2.2⟩
def pZ(w:Wv)(e:Ending)(w':Wv):Prop:=e=.returned (.tuple #[])/\w=w'
theorem MH(S:Oa)(n c:Nat)(hn:n<=0)(w:Wv):Calls prog 211 #[H S n c,I J 0,I J n,.func (.func 198) #[] #[]] w (pZ w):=by
 have HN:=G hn;clear hn;go_enter func211,ntmps211;go_wp2;go_loop [8] (fun i=>∃k:Nat,k=1/\i=I J k) (fun _=>0)
 case atStart=>exact⟨1,rfl,rfl⟩
 obtain⟨k,hk,rfl⟩:=hrel;have hk1:¬k<n:=by have:=HN.out;omega
 clear hk HN;go_wp2;go_end0;exact⟨rfl,rfl⟩
theorem Q_(S:Oa)(n c:Nat)(hn:n<=0)(z:Int)(w:Wv):Calls prog 207 #[H S n c,I J 0,I J n,I J z,.func (.func 198) #[] #[]] w (pZ w):=by
 have C:=G (MH S n c hn w);have q1:decide ((n:Int)<=12)=true:=by simp;omega
 have q2:decide (n<=12)=true:=by simp;omega
 have hbig:n<=12:=by omega
 clear hn;go_enter func207,ntmps207;go_wp2_with fail;refine wp_loop_rounds 1 ?_;rw[rounds_succ];go_wp2_with fail;refine C.out.mono ?_;rintro e w1 ⟨rfl,hw⟩;have HW:=G hw;clear hw;go_wp2_with fail;go_end0;exact⟨rfl,HW.out⟩
theorem VG(S:Oa)(n c:Nat)(hn:n<=0)(w:Wv):Calls prog 197 #[H S n c,.func (.func 198) #[] #[]] w (pZ w):=by
 have LC:=G (wV n (by omega) w);have PC:=G (fun z=>Q_ S n c hn z w);have hu:IntKind.u64.wrap (n:Int)=(n:Int):=by rw[IntKind.wrap_u64];omega
 have hbig:n<=12:=by omega
 clear hn;go_enter func197,ntmps197;go_wp2_with fail;refine LC.out.mono ?_;rintro e w' ⟨⟨z,rfl⟩,rfl⟩;go_wp2_with fail;refine(PC.out z).mono ?_;rintro e w1 ⟨rfl,rfl⟩;go_wp2_with fail;go_end0;exact⟨rfl,rfl⟩
theorem DH{xs ys:List Rg}(h:∀r,r∈xs ↔ r∈ys)(c:Int):cD xs c=true ↔ cD ys c=true:=by
 rw[cM,cM];exact⟨fun⟨r,hr,h1⟩=>⟨r,(h r).1 hr,h1⟩,fun⟨r,hr,h1⟩=>⟨r,(h r).2 hr,h1⟩⟩
theorem EI{rs ds out:List Rg}{b:Int}(hst:Srt.St dM (cO rs) ds)(hm:Mg ds out b):out=gL rs:=
 EJ hm.ok (fun c c0 c1=>by
  rw[hm.any c,DH (ys:=cO rs) (fun r=>⟨fun h=>mP hst h,fun h=>BY hst h⟩) c]
  exact FJ c0 c1)
theorem VH{ds:List Rg}{n:Nat}(hs:Srt.SortedOn dM ds 0 n)(hok:∀r∈ds,cV r)(hn:ds.length=n){i t:Nat}(hit:i<t)(ht:t<ds.length):(ds[i]'(by omega)).lo<=ds[t].lo:=by
 have h1:=hs i t (by omega) hit (by omega);rw[Srt.kf_some (List.getElem?_eq_getElem (show i<ds.length by omega)),Srt.kf_some (List.getElem?_eq_getElem ht)]at h1;have a:=hok _ (List.getElem_mem (show i<ds.length by omega));have b:=hok _ (List.getElem_mem ht);unfold dM at h1;unfold cV at a b;omega
section
variable {out:List Rg}{q:Rg}
theorem PD{k:Nat}(hk:out.length=k+1){x:Rg}(hx:out[k]?=Z x)(h:¬q.lo<=x.hi+1):mrg out q=out++[q]:=by
 unfold mrg;have:out.getLast?=Z x:=by rw[List.getLast?_eq_getElem?,hk];simpa using hx
 rw[this];simp[h]
theorem PE{k:Nat}(hk:out.length=k+1){x:Rg}(hx:out[k]?=Z x)(h:q.lo<=x.hi+1):mrg out q=out.set k ⟨x.lo,max x.hi q.hi⟩:=by
 unfold mrg;have:out.getLast?=Z x:=by rw[List.getLast?_eq_getElem?,hk];simpa using hx
 rw[this];simp only[h,if_true];rw[rL hk];have e:out[k]'(by omega)=x:=(List.getElem?_eq_some_iff.1 hx).2;rw[e]
end
theorem RZ(tmps:Array Value)(w:Wv){b:Nat}{v0:Value}(ha:tmps.getD 2 undef=.pointer (Z ⟨b,0,N⟩))(c0:w.cell? ⟨b,0,N⟩=Z v0):
  (results f179 tmps).run prog w=.ok (.agg #[v0]) w:=by
 have hr:f179.results=#[.cell 2 26]:=rfl;unfold results;rw[hr];simp only[ha,List.mapM_toArray,List.mapM_cons,List.mapM_nil,asAddr];go_simp
theorem GO(A:Oa)(n a:Nat)(rs:List Rg)(w:Wv)(hA:Rgs w A rs)(hn:rs.length=n)(hz:n<=12):
  Calls prog 179 #[H A n a] w (BL (gL rs) w):=by
 subst hn;have B0:By w (w.alloc (.cells #[H N 0 0] 26)):=ba _ _;have X0:Box (w.alloc (.cells #[H N 0 0] 26)) w.heap.size 26 [H N 0 0]:=Box.new _ _ _ rfl;have s0:(w.alloc (.cells #[H N 0 0] 26)).heap.size=w.heap.size+1:=by simp
 have W0E:∃W0,(w.alloc (.cells #[H N 0 0] 26))=W0:=⟨_,rfl⟩;have HA:=G hA;have HCO:=G (fun ds out b h1 h2=>EI (rs:=rs) (ds:=ds) (out:=out) (b:=b) h1 h2);have HCL:=G (FK rs);have hcl:=uW rs;generalize gL rs=R at *;clear hA;go_enter func179,ntmps179;go_wp2_with fail;obtain⟨W0,hW0⟩:=W0E;rw[hW0]at B0 X0 s0|-;clear hW0;have HNIL:=U (W0.ownsRow W0.heap.size 179 2 (H N 0 0) 0 ([]:Lv)) (World.ownsRow_nil _ _ _ _);have C0:=U (cO (rs.take 0)=[]) rfl;go_loopw [3,13] (fun v u wr=>∃(i:Nat)(S:Oa)(k:Nat),i<=rs.length/\u=I J i/\v=H S (cO (rs.take i)).length k/\wr.ownsRow W0.heap.size 179 2 (H S (cO (rs.take i)).length k) (cO (rs.take i)).length (aE Rg.cells (cO (rs.take i)))/\By W0 wr) (fun _ u _=>rs.length-(intOf u).toNat)
 case atStart=>exact⟨0,N,0,Nat.zero_le _,rfl,by rw[C0.out];rfl,by rw[C0.out];exact HNIL.out,Below.refl _ _⟩
 obtain⟨i,S,k,hi,rfl,rfl,hown,hbr⟩:=hrel;have HOWN:=G hown;clear hown HNIL C0;have hbw:=B0.trans (hbr.mono B0.size);have hcli:(cO (rs.take i)).length<=i:=Nat.le_trans (uW _) (List.length_take_le _ _);by_cases hlt:i<rs.length
 ·obtain⟨b1,o1,rfl,hbl,hcell⟩:=(HA.out.below hbw).at hlt
  obtain⟨c1,c2⟩:=hcell i hlt;have CT:=G (FM hlt);have CP:=U (fG rs[i]=⟨max rs[i].lo 0,min rs[i].hi 1114111⟩) rfl;clear hcell;generalize hcc:fG rs[i]=cr at *;clear hcc;generalize rs[i]=ri at *;generalize hL0:cO (rs.take i)=L0 at *;clear hL0;obtain⟨rlo,rhi⟩:=ri;obtain⟨pl,ph⟩:=cr;dsimp only at *;have e0:=CP.out;injection e0 with e1 e2;have em:(if rlo<0 then(0:Int)else rlo)=pl:=by rw[e1];split<;>omega
  have eM:(if 1114111<rhi then(1114111:Int)else rhi)=ph:=by rw[e2];split<;>omega
  have em2:max rlo 0=pl:=by omega
  have eM2:min rhi 1114111=ph:=by omega
  clear e1 e2 CP;have hn1:¬b1=wr.heap.size:=by omega
  have Bp:By wr ((wr.alloc (.cells #[I J rlo,I J rhi] 179)).alloc (.cells #[I J pl,I J ph] 179)):=(ba _ _).alloc (by simp) _;by_cases hp:pl<=ph
  ·have q1:decide (pl<=ph)=true:=by simpa using hp
   have ct:=CT.out;rw[if_pos hp]at ct;have HCT:=G ct;have Bq:By wr (((wr.alloc (.cells #[I J rlo,I J rhi] 179)).alloc (.cells #[I J pl,I J ph] 179)).alloc (.cells #[I J pl,I J ph] 179)):=Bp.alloc Bp.size _;have HOP:=G (bI HOWN.out Bq);have szp:W0.heap.size<=(((wr.alloc (.cells #[I J rlo,I J rhi] 179)).alloc (.cells #[I J pl,I J ph] 179)).alloc (.cells #[I J pl,I J ph] 179)).heap.size:=Nat.le_trans hbr.size Bq.size;have hb9:=hbr.trans (Bq.mono hbr.size);clear CT ct HOWN Bp Bq;go_wp2_with(at_builtin;refine cJ _ _ 24 179 (.agg #[I J 0,I J 0]) 2 16 rfl rfl underlying24 rR rfl (by decide) (by decide) rfl HOP.out rfl (eE _ (Rg.cells ⟨pl,ph⟩) _ (by simp)) rfl (sL _) (by omega) szp ?_;intro A7 c7 w7 hown7 hc7 hb7 _ _;have HO7:=G hown7;clear hown7);go_roundw
   case rel=>exact⟨i+1,A7,c7,by omega,by go_num,by rw[HCT.out,List.length_append];rfl,by rw[HCT.out,List.length_append,k_];exact HO7.out,hb9.trans hb7⟩
   simp[intOf];omega
  have q1:decide (pl<=ph)=false:=by simpa using hp
  have ct:=CT.out;rw[if_neg hp,List.append_nil]at ct;have HCT:=G ct;have HOP:=G (bI HOWN.out Bp);have hb9:=hbr.trans (Bp.mono hbr.size);clear CT ct HOWN Bp;go_wp2_with fail;go_roundw
  case rel=>exact⟨i+1,S,k,by omega,by go_num,by rw[HCT.out],by rw[HCT.out];exact HOP.out,hb9⟩
  simp[intOf];omega
 rw[List.take_of_length_le (show rs.length<=i by omega)]at HOWN|-;clear hcli
 have SRT:=G (show Calls prog 197 #[H S (cO rs).length k,.func (.func 198) #[] #[]] wr (fun e w'=>e=.returned (.tuple #[])/\∃ds,ds.length=(cO rs).length/\Srt.St dM (cO rs) ds/\Srt.SortedOn dM ds 0 (cO rs).length/\Rgs w' S ds/\By W0 w') by
  rcases Nat.eq_zero_or_pos (cO rs).length with h0|h0
  ·have hnil:cO rs=[]:=List.length_eq_zero_iff.1 h0
   exact(VG S (cO rs).length k (by omega) wr).mono (fun e w'⟨he,hw⟩=>⟨he,[],by rw[hnil],by rw[hnil];exact Srt.St.refl _,Srt.SortedOn.short (by omega),Sl.nil _ _,by subst hw;exact hbr⟩)
  ·have ho:=HOWN.out
   obtain⟨g,hS⟩:∃g,S=Z ⟨g,0,N⟩:=by
    rcases ho.2 with⟨_,h1⟩|⟨g,cap,cur,hv',_⟩
    ·omega
    injection hv' with hA' _ _;exact⟨g,hA'⟩
   subst hS
   have hg0:W0.heap.size<=g:=(ho.lt g rfl).1
   refine(VF W0.heap.size g (cO rs).length k (cO rs) wr ho (by omega) HCL.out).mono (fun e w'⟨he,d1,hD,hR1,hg1⟩=>⟨he,d1,hR1.len,hD.2.1,hD.2.2,Sl.of_own hR1,lO hbr hg1 hg0 hbr.size⟩))
 clear HOWN;generalize hcl0:cO rs=cl at *;clear hcl0;go_wp2_with fail;with_reducible refine SRT.out.mono ?_
 rintro e W2 ⟨rfl,ds,hdl,hst,hso,hds,hb2⟩;have HDS:=G hds;have HST:=G hst;have HDL:=G hdl;have HOK:=U (∀r∈ds,cV r) (fun r hr=>HCL.out r (mP hst hr));have HLO:=U (∀i t,(hit:i<t)->(ht:t<ds.length)->(ds[i]'(by omega)).lo<=ds[t].lo) (fun i t hit ht=>VH hso (fun r hr=>HCL.out r (mP hst hr)) hdl (i:=i) (t:=t) hit ht);rw[<-hdl];have hdz:ds.length<=12:=by omega
 clear SRT hds hst hso hdl;have HNIL:=U (W2.ownsRow W2.heap.size 179 2 (H N 0 0) 0 ([]:Lv)) (World.ownsRow_nil _ _ _ _);have hb3:=B0.trans (hb2.mono B0.size);go_wp2_with fail;go_loopw [7,38] (fun v u wr=>∃(i:Nat)(S:Oa)(k:Nat)(out:List Rg)(b:Int),i<=ds.length/\u=I J i/\v=H S out.length k/\wr.ownsRow W2.heap.size 179 2 (H S out.length k) out.length (aE Rg.cells out)/\out.length<=i/\Mg (ds.take i) out b/\(∀t,(ht:t<ds.length)->i<=t->b<=ds[t].lo)/\By W2 wr) (fun _ u _=>ds.length-(intOf u).toNat)
 case atStart=>exact⟨0,N,0,[],0,Nat.zero_le _,rfl,rfl,HNIL.out,Nat.le_refl _,Mg.nil 0,fun t ht _=>(HOK.out _ (List.getElem_mem ht)).1,Below.refl _ _⟩
 obtain⟨i,S',k',out,b,hi,rfl,rfl,hown,hol,hMg,hbl',hbr2⟩:=hrel;have HOWN:=G hown;have HMG:=G hMg;have HBL:=G hbl';clear hown hMg hbl' HNIL;by_cases hlt:i<ds.length
 ·obtain⟨b1,o1,rfl,hbl,hcell⟩:=(HDS.out.below hbr2).at hlt
  obtain⟨c1,c2⟩:=hcell i hlt;have hclip:=HOK.out ds[i] (List.getElem_mem hlt);have HMS:=G (show Mg (ds.take (i+1)) (mrg out ds[i]) ds[i].lo by rw[List.take_succ_eq_append_getElem hlt];exact HMG.out.step (HBL.out i hlt (Nat.le_refl _)) hclip);have HBS:=U (∀t,(ht:t<ds.length)->i+1<=t->ds[i].lo<=ds[t].lo) (fun t ht hit=>HLO.out i t (by omega) ht);have MO:=G (fun hk x hx h=>PD (out:=out) (q:=ds[i]'hlt) (k:=out.length-1) hk (x:=x) hx h);have MS:=G (fun hk x hx h=>PE (out:=out) (q:=ds[i]'hlt) (k:=out.length-1) hk (x:=x) hx h);have MN:=G (fun(h:out=[])=>show mrg out ds[i]=out++[ds[i]] by subst h;rfl);have HOO:=G HMG.out.ok.1;clear hcell HMG HBL;generalize mrg out ds[i]=M1 at *;generalize ds[i]=q at *;obtain⟨qlo,qhi⟩:=q;dsimp only at *;unfold cV at hclip;dsimp only at hclip;have Ba:By wr (wr.alloc (.cells #[I J qlo,I J qhi] 179)):=ba _ _;have sa:(wr.alloc (.cells #[I J qlo,I J qhi] 179)).heap.size=wr.heap.size+1:=by simp
  have x0:(wr.alloc (.cells #[I J qlo,I J qhi] 179)).cell? ⟨wr.heap.size,0,N⟩=Z (I J qlo):=by simp
  have x1:(wr.alloc (.cells #[I J qlo,I J qhi] 179)).cell? ⟨wr.heap.size,1,N⟩=Z (I J qhi):=by simp
  have HOA:=G (bI HOWN.out Ba);have HGW:=U (∀g,S'=Z ⟨g,0,N⟩->g<wr.heap.size) (fun g e=>(HOWN.out.lt g (by rw[e];rfl)).2);have hb4:=hbr2.trans (Ba.mono hbr2.size);have WaE:∃Wa,wr.alloc (.cells #[I J qlo,I J qhi] 179)=Wa:=⟨_,rfl⟩;have hn1:¬b1=wr.heap.size:=by omega
  clear HOWN;go_wp2_with fail;obtain⟨Wa,hWa⟩:=WaE;rw[hWa]at Ba sa x0 x1 HOA hb4|-;clear hWa c1 c2;rcases Nat.eq_zero_or_pos out.length with hl0|hl0
  ·have hnil:out=[]:=List.length_eq_zero_iff.1 hl0
   obtain rfl:=MN.out hnil;have q0:decide ((0:Int)<(out.length:Int))=false:=by simp[hnil]
   have q00:decide (0<out.length)=false:=by simp[hnil]
   clear MN MO MS hnil hl0;go_quiet(fail);have x0q:(Wa.drewN nq).cell? ⟨wr.heap.size,0,N⟩=Z (I J qlo):=x0;have x1q:(Wa.drewN nq).cell? ⟨wr.heap.size,1,N⟩=Z (I J qhi):=x1;have HOQ:=U ((Wa.drewN nq).ownsRow W2.heap.size 179 2 (H S' out.length k') out.length (aE Rg.cells out)) HOA.out;have hb5:=jU hb4 nq;have hxq:wr.heap.size<(Wa.drewN nq).heap.size:=by show wr.heap.size<Wa.heap.size;omega
   clear HOA hb4 sa x0 x1;generalize Wa.drewN nq=Wq at *;have Bq:By Wq (Wq.alloc (.cells #[I J qlo,I J qhi] 179)):=ba _ _;have HOP:=G (bI HOQ.out Bq);have hb6:=hb5.trans (Bq.mono hb5.size);have szp:W2.heap.size<=(Wq.alloc (.cells #[I J qlo,I J qhi] 179)).heap.size:=hb6.size;clear HOQ Bq;go_wp2_with(at_builtin;refine cJ _ _ 24 179 (.agg #[I J 0,I J 0]) 2 16 rfl rfl underlying24 rR rfl (by decide) (by decide) rfl HOP.out rfl (eE _ (Rg.cells ⟨qlo,qhi⟩) _ rfl) rfl (sL _) (by omega) szp ?_;intro A7 c7 w7 hown7 hc7 hb7 _ _;have HO7:=G hown7;clear hown7);go_roundw
   case rel=>exact⟨i+1,A7,c7,out++[⟨qlo,qhi⟩],qlo,by omega,by go_num,by rw[List.length_append];rfl,by rw[List.length_append,k_];exact HO7.out,by rw[List.length_append];simp;omega,HMS.out,HBS.out,hb6.trans hb7⟩
   simp[intOf];omega
  obtain⟨j,hj⟩:∃j,out.length=j+1:=⟨out.length-1,by omega⟩;have hjx:j<out.length:=by omega
  have MO:=G (fun(x:Rg) (hx:out[j]?=Z x) (h:¬qlo<=x.hi+1)=>MO.out (by omega) x (by rw[show out.length-1=j by omega];exact hx) (by omega));have MS:=G (fun(x:Rg) (hx:out[j]?=Z x) (h:qlo<=x.hi+1)=>(MS.out (by omega) x (by rw[show out.length-1=j by omega];exact hx) (by omega)));obtain⟨y,hy⟩:=rH hjx;have hyo:=HOO.out y (List.mem_of_getElem? hy);unfold cV at hyo
  obtain⟨g,hS⟩:∃g,S'=Z ⟨g,0,N⟩:=by
   rcases HOA.out.2 with⟨_,h1⟩|⟨g,cap,cur,hv',_⟩
   ·omega
   injection hv' with hA' _ _;exact⟨g,hA'⟩
  subst hS;have gO:W2.heap.size<=g:=(HOA.out.lt g rfl).1;have gl:g<Wa.heap.size:=(HOA.out.lt g rfl).2;have y1:Wa.cell? ⟨g,j*2+1,N⟩=Z (I J y.hi):=by
   rw[World.ownsRow.cellAt HOA.out (j*2+1) (by omega),gW Rg.cells 2 (fun _=>rfl) out j 1 hjx (by omega),(List.getElem?_eq_some_iff.1 hy).2];rfl
  have f1:=World.ownsRow.frozenAt HOA.out (j*2+1);have HY:=G hy;have HJ:=G hj;have i0:decide ((0:Int)<(out.length:Int))=true:=by simp;omega
  have i1:IntKind.i64.wrap ((out.length:Int)-1)=(j:Int):=by rw[IntWalk.i64_in _ (by omega)];omega
  have i2:(0:Int)<=(j:Int):=by omega
  have i3:((j:Int)).toNat=j:=by omega
  have i4:(j:Int)<(out.length:Int):=by omega
  have i5:IntKind.i64.wrap (y.hi+1)=y.hi+1:=IntWalk.i64_in _ (by omega);have yhi:=hyo;clear hy hj MN;have HGB:=U (g<wr.heap.size) (HGW.out g rfl);by_cases hm:qlo<=y.hi+1
  ·have q1:decide (qlo<=y.hi+1)=true:=by simpa using hm
   have HMS2:=G (MS.out y HY.out hm);clear MO MS;go_quiet(fail);have x0q:(Wa.drewN nq).cell? ⟨wr.heap.size,0,N⟩=Z (I J qlo):=x0;have x1q:(Wa.drewN nq).cell? ⟨wr.heap.size,1,N⟩=Z (I J qhi):=x1;have HOQ:=U ((Wa.drewN nq).ownsRow W2.heap.size 179 2 (H (Z ⟨g,0,N⟩) out.length k') out.length (aE Rg.cells out)) HOA.out;have hb5:=jU hb4 nq;have hxq:wr.heap.size<(Wa.drewN nq).heap.size:=by show wr.heap.size<Wa.heap.size;omega
   clear HOA hb4 sa x0 x1;have y1q:(Wa.drewN nq).cell? ⟨g,j*2+1,N⟩=Z (I J y.hi):=y1;have f1q:(Wa.drewN nq).frozen? ⟨g,j*2+1,N⟩=false:=f1;clear y1 f1;generalize Wa.drewN nq=Wq at *;have hgne:¬g=wr.heap.size:=by have:=HGB.out;omega
   obtain⟨mx,hmx2⟩:∃m,max y.hi qhi=m:=⟨_,rfl⟩;have hmx:(if y.hi<qhi then qhi else y.hi)=mx:=by rw[<-hmx2];split<;>omega
   go_wp2_with fail;go_region
   all_goals
    have st:=World.ownsRow.stored HOQ.out (j*2+1) (I J mx);rw[JN out j _ HY.out]at st;have HST2:=G st.1;have hbs:=hb5.setCell (p:=⟨g,j*2+1,N⟩) gO (I J mx);have HMX:=G hmx2;clear st hmx hmx2;go_wp2_with fail;go_roundw
    case rel=>
     have e0:out.length-1=j:=by have:=HJ.out;omega
     have e1:=HMS2.out;rw[e0]at e1;subst e1;refine⟨i+1,Z ⟨g,0,N⟩,k',out.set j ⟨y.lo,max y.hi qhi⟩,qlo,by omega,by go_num,by rw[List.length_set],?_,by rw[List.length_set];omega,HMS.out,HBS.out,hbs.drew⟩;rw[List.length_set,HMX.out];exact HST2.out
    simp[intOf];omega
  have q1:decide (qlo<=y.hi+1)=false:=by simpa using hm
  obtain rfl:=MO.out y HY.out hm;clear MO MS;go_quiet(fail);clear i0 i1 i2 i3 i4 i5 y1 f1;have x0q:(Wa.drewN nq).cell? ⟨wr.heap.size,0,N⟩=Z (I J qlo):=x0;have x1q:(Wa.drewN nq).cell? ⟨wr.heap.size,1,N⟩=Z (I J qhi):=x1;have HOQ:=U ((Wa.drewN nq).ownsRow W2.heap.size 179 2 (H (Z ⟨g,0,N⟩) out.length k') out.length (aE Rg.cells out)) HOA.out;have hb5:=jU hb4 nq;have hxq:wr.heap.size<(Wa.drewN nq).heap.size:=by show wr.heap.size<Wa.heap.size;omega
  clear HOA hb4 sa x0 x1;generalize Wa.drewN nq=Wq at *;have Bq:By Wq (Wq.alloc (.cells #[I J qlo,I J qhi] 179)):=ba _ _;have HOP:=G (bI HOQ.out Bq);have hb6:=hb5.trans (Bq.mono hb5.size);have szp:W2.heap.size<=(Wq.alloc (.cells #[I J qlo,I J qhi] 179)).heap.size:=hb6.size;clear HOQ Bq;go_wp2_with(at_builtin;refine cJ _ _ 24 179 (.agg #[I J 0,I J 0]) 2 16 rfl rfl underlying24 rR rfl (by decide) (by decide) rfl HOP.out rfl (eE _ (Rg.cells ⟨qlo,qhi⟩) _ rfl) rfl (sL _) (by omega) szp ?_;intro A7 c7 w7 hown7 hc7 hb7 _ _;have HO7:=G hown7;clear hown7);go_roundw
  case rel=>exact⟨i+1,A7,c7,out++[⟨qlo,qhi⟩],qlo,by omega,by go_num,by rw[List.length_append];rfl,by rw[List.length_append,k_];exact HO7.out,by rw[List.length_append];simp;omega,HMS.out,HBS.out,hb6.trans hb7⟩
  simp[intOf];omega
 have hmg:=HMG.out;rw[List.take_of_length_le (show ds.length<=i by omega)]at hmg;obtain rfl:=HCO.out ds out b HST.out hmg;have hb6:=hb2.trans (hbr2.mono hb2.size);have hb7:=B0.trans (hb6.mono B0.size);have X9:=X0.below hb6 X0.lt;have z9:=X9.c 0 rfl;have f9:=X9.free 0;have hxr:=X9.lt;have hxw:w.heap.size<W2.heap.size:=by have:=hb2.size;omega
 have hbf:=hb7.setCell (p:=⟨w.heap.size,0,N⟩) (Nat.le_refl _) (H S' out.length k');have HRW:=G (Sl.of_own (QO HOWN.out (p:=⟨w.heap.size,0,N⟩) hxw (H S' out.length k')));have hc:=QN HOWN.out;clear HMG hmg HOWN HCO X9;go_wp2_with fail;(try simp only[Exit.inBlock,Exit.then]);refine bodyPost_ret (RZ _ _ (b:=w.heap.size) (v0:=H S' out.length k') rfl (by go_simp)) rfl ?_;exact⟨S',k',rfl,hc,HRW.out,hbf⟩
theorem GP(A:Oa)(n a:Nat)(ys:List Rg)(w:Wv)(hA:Rgs w A ys)(hn:ys.length=n)(hz:n<=12):
  Calls prog 141 #[.agg #[H A n a]] w (eD (kL ys) w):=by
 subst hn;have B0:By w (w.alloc (.cells #[H A ys.length a] 26)):=ba _ _;have k0:(w.alloc (.cells #[H A ys.length a] 26)).cell? ⟨w.heap.size,0,N⟩=Z (H A ys.length a):=by simp
 have s0:(w.alloc (.cells #[H A ys.length a] 26)).heap.size=w.heap.size+1:=by simp
 have W0E:∃W0,(w.alloc (.cells #[H A ys.length a] 26))=W0:=⟨_,rfl⟩;have MC:=G (fun W(hb:By w W)=>GO A ys.length a ys W (hA.below hb) rfl hz);have hcl:=EH ys;have S0:=U (kL ys=decide (gL ys=ys)) rfl;generalize gL ys=xs at *;have S1:=G (TV (xs:=xs) (ys:=ys));have S2:=G (fun k h1 h2 h=>TY (xs:=xs) (ys:=ys) (k:=k) h1 h2 h);have S3:=G (TU (xs:=xs) (ys:=ys));generalize decide (xs=ys)=R at *;generalize kL ys=R' at *;obtain rfl:=S0.out;have HA:=G (fun W(hb:By w W)=>hA.below hb);clear hA;go_enter func141,ntmps141;go_wp2_with fail;obtain⟨W0,hW0⟩:=W0E;rw[hW0]at B0 k0 s0|-;clear hW0;have hx0:w.heap.size<W0.heap.size:=by omega
 with_reducible refine(MC.out W0 B0).mono ?_
 rintro e W1 ⟨E,d,rfl,hd,hE,hb1⟩;have HE:=G hE;have f0:=(hb1.cell (p:=⟨w.heap.size,0,N⟩) hx0).trans k0;have hx1:w.heap.size<W1.heap.size:=by have:=hb1.size;omega
 have hxn:¬w.heap.size=W1.heap.size:=by omega
 have Bm:By W1 (W1.alloc (.cells #[H E xs.length d] 26)):=ba _ _;have m0:(W1.alloc (.cells #[H E xs.length d] 26)).cell? ⟨W1.heap.size,0,N⟩=Z (H E xs.length d):=by simp
 have g0:=(Bm.cell (p:=⟨w.heap.size,0,N⟩) hx1).trans f0;have sm:(W1.alloc (.cells #[H E xs.length d] 26)).heap.size=W1.heap.size+1:=by simp
 have hb2:=B0.trans (hb1.mono B0.size);have hb3:=hb2.trans (Bm.mono hb2.size);have HE2:=G (HE.out.below Bm);have W2E:∃W2,W1.alloc (.cells #[H E xs.length d] 26)=W2:=⟨_,rfl⟩;clear MC hE HE k0;by_cases hl:xs.length=ys.length;rotate_left
 ·obtain rfl:=S1.out hl
  have q1:((xs.length:Int)!=(ys.length:Int))=true:=by simp;omega
  go_wp2_with fail;go_ret;exact⟨rfl,hb3⟩
 have q1:((xs.length:Int)!=(ys.length:Int))=false:=by simp;omega
 have hle:xs.length<=ys.length:=by omega
 have S3':=G (S3.out hl);clear hl S1 S3;go_wp2_with fail;obtain⟨W2,hW2⟩:=W2E;rw[hW2]at Bm m0 g0 sm hb3 HE2|-;clear hW2 q1 f0;have hy0:w.heap.size<W2.heap.size:=by omega
 have G0:=G g0;clear g0 m0;go_loopw [19] (fun u wr=>∃i:Nat,i<=xs.length/\u=I J i/\(∀t,(h1:t<xs.length)->(h2:t<ys.length)->t<i->xs[t]=ys[t])/\By W2 wr) (fun u _=>xs.length-(intOf u).toNat)
 case atStart=>exact⟨0,Nat.zero_le _,rfl,fun t _ _ h=>by omega,Below.refl _ _⟩
 obtain⟨i,hi,rfl,hno,hbr⟩:=hrel;have HNO:=G hno;clear hno;have f0:=(hbr.cell (p:=⟨w.heap.size,0,N⟩) hy0).trans G0.out;have hyr:w.heap.size<wr.heap.size:=by have:=hbr.size;omega
 have hyn:¬w.heap.size=wr.heap.size:=by omega
 have hbw:=hb3.trans (hbr.mono hb3.size);by_cases hlt:i<xs.length
 ·have hlt2:i<ys.length:=by omega
  obtain⟨b1,o1,rfl,hbl,hcell⟩:=(HE2.out.below hbr).at hlt;obtain⟨c1,c2⟩:=hcell i hlt;obtain⟨b2,o2,rfl,hbl2,hcell2⟩:=(HA.out wr hbw).at hlt2;obtain⟨d1,d2⟩:=hcell2 i hlt2;have HY:=G (fun h=>S2.out i hlt hlt2 h)
  have HN:=G (fun(h:xs[i]=ys[i])=>show ∀t,(h1:t<xs.length)->(h2:t<ys.length)->t<i+1->xs[t]=ys[t]from fun t h1 h2 ht=>by
   by_cases e:t<i
   ·exact HNO.out t h1 h2 e
   ·obtain rfl:t=i:=by omega
    exact h)
  clear hcell hcell2;generalize xs[i]=x at *;generalize ys[i]=y at *;obtain⟨xl,xh⟩:=x;obtain⟨yl,yh⟩:=y;dsimp only at *;have n1:¬b1=wr.heap.size:=by omega
  have n2:¬b2=wr.heap.size:=by omega
  have i1:(0:Int)<=(i:Int):=by omega
  have i2:(i:Int)<(xs.length:Int):=by omega
  have i3:((i:Int)).toNat=i:=by omega
  have i4:(i:Int)<(ys.length:Int):=by omega
  have Bx:By wr (wr.alloc (.cells #[I J xl,I J xh] 179)):=ba _ _;have x0:(wr.alloc (.cells #[I J xl,I J xh] 179)).cell? ⟨wr.heap.size,0,N⟩=Z (I J xl):=by simp
  have x1:(wr.alloc (.cells #[I J xl,I J xh] 179)).cell? ⟨wr.heap.size,1,N⟩=Z (I J xh):=by simp
  have e0:=(Bx.cell (p:=⟨w.heap.size,0,N⟩) hyr).trans f0;have e1:=(Bx.cell (p:=⟨b2,o2+i*2,N⟩) hbl2).trans d1;have e2:=(Bx.cell (p:=⟨b2,o2+i*2+1,N⟩) hbl2).trans d2;have hb5:=hbr.trans (Bx.mono hbr.size);have WxE:∃Wx,wr.alloc (.cells #[I J xl,I J xh] 179)=Wx:=⟨_,rfl⟩;clear f0 d1 d2;go_wp2_with fail;obtain⟨Wx,hWx⟩:=WxE;rw[hWx]at Bx x0 x1 e0 e1 e2 hb5|-;clear hWx c1 c2;by_cases he:(⟨xl,xh⟩:Rg)=⟨yl,yh⟩
  ·have HQ:=G (HN.out he)
   have NR1:∀W,(binOp .neq 179 (.agg #[I J xl,I J xh]) (.agg #[I J yl,I J yh])).run prog W=.ok (.bool false) W:=fun W=>by rw[xM,he];simp
   clear HY HN he;go_quiet(fail);go_wp2_with fail;go_roundw
   case rel=>exact⟨i+1,by omega,by go_num,HQ.out,jU hb5 _⟩
   simp[intOf];omega
  obtain rfl:=HY.out he;have NR1:∀W,(binOp .neq 179 (.agg #[I J xl,I J xh]) (.agg #[I J yl,I J yh])).run prog W=.ok (.bool true) W:=fun W=>by rw[xM,decide_eq_false he];rfl
  clear HY HN he;go_quiet(fail);go_wp2_with fail;go_ret;exact⟨rfl,hb3.trans ((jU hb5 _).mono hb3.size)⟩
 obtain rfl:=S3'.out (fun t h1 h2=>HNO.out t h1 h2 (by omega));go_wp2_with fail;go_ret;exact⟨rfl,hbw⟩
structure dC(w:Wv)(A0:Oa)(n0:Nat)(A1:Oa)(n1:Nat)(A2:Oa)(n2:Nat)(x:Nrm):Prop where
 s0:bD w A0 x.cls
 s1:Mps w A1 x.dec
 s2:Rgs w A2 x.exc
 l0:x.cls.length=n0
 l1:x.dec.length=n1
 l2:x.exc.length=n2
theorem dC.below{w w':Wv}{A0:Oa}{n0:Nat}{A1:Oa}{n1:Nat}{A2:Oa}{n2:Nat}{x:Nrm}(h:dC w A0 n0 A1 n1 A2 n2 x)(hb:By w w'):dC w' A0 n0 A1 n1 A2 n2 x:=
 ⟨h.s0.below hb,h.s1.below hb,h.s2.below hb,h.l0,h.l1,h.l2⟩
structure cC(x:Nrm):Prop where
 z0:x.cls.length<=1048576
 z1:lM x.dec
 z2:x.exc.length<=12
theorem q_(A0:Oa)(n0 k0:Nat)(A1:Oa)(n1 k1:Nat)(A2:Oa)(n2 k2:Nat)(x:Nrm)(w:Wv)(hN:dC w A0 n0 A1 n1 A2 n2 x)(hz:cC x)(hL:cK w):
  Calls prog 84 #[.agg #[H A0 n0 k0,H A1 n1 k1,H A2 n2 k2]] w (bU (bQ x) w):=by
 obtain⟨ss,ms,rs⟩:=x;obtain⟨hS,hM,hR,rfl,rfl,rfl⟩:=hN;dsimp only at *;have z0:ss.length<=1048576:=hz.z0;have z1:ms.length<=1048576:=hz.z1.n;have CC:=G (fun W(hb:By w W)=>tN A0 ss.length k0 ss W (hS.below hb) rfl (by omega) (hL.below hb));have MC:=G (fun W(hb:By w W)=>OH A1 ms.length k1 ms W (hM.below hb) rfl hz.z1);have VC:=G (fun W(hb:By w W)=>GP A2 rs.length k2 rs W (hR.below hb) rfl hz.z2);have KC:=G (fun c W=>mJ c W);have RC:=G (fun A nt kt text W(hb:By w W)(hT:aB W A text)(hnt:text.length=nt)(hbt:nt<=1048576)=>BR A0 ss.length k0 ss A nt kt text W (hS.below hb) hT hnt rfl hbt (by omega) (hL.below hb));have ME:=G (fun W(hb:By w W)(hst:StF ms)(hco:fM ms)(hh:c_ ms)=>OT A0 ss.length k0 A1 ms.length k1 A2 rs.length k2 ms W (hM.below hb) rfl hst hco hh z1);have N0:=G (fun h=>xG (x:=⟨ss,ms,rs⟩) h);have N1:=G (fun h1 h2=>xI (x:=⟨ss,ms,rs⟩) h1 h2);have N2:=G (fun h1 h2 h3=>xJ (x:=⟨ss,ms,rs⟩) h1 h2 h3);have N3:=G (fun(c:Ck3 ⟨ss,ms,rs⟩) h=>c.twice h);have N4:=G (fun(c:Ck4 ⟨ss,ms,rs⟩) h=>c.kind h);have N5:=G (fun(c:Ck5 ⟨ss,ms,rs⟩) h=>c.data h);have N6:=G (fun(c:Ck6 ⟨ss,ms,rs⟩)=>c.rest);dsimp only at N0 N1 N2 N3 N4 N5 N6;generalize bQ ⟨ss,ms,rs⟩=r at *;have HM:=G hM;clear hM hS hR hz hL;have B0:By w (w.alloc (.cells #[H A0 ss.length k0,H A1 ms.length k1,H A2 rs.length k2] 28)):=ba _ _;have X0:Box (w.alloc (.cells #[H A0 ss.length k0,H A1 ms.length k1,H A2 rs.length k2] 28)) w.heap.size 28 [H A0 ss.length k0,H A1 ms.length k1,H A2 rs.length k2]:=Box.new _ _ _ rfl;have W0E:∃W0,(w.alloc (.cells #[H A0 ss.length k0,H A1 ms.length k1,H A2 rs.length k2] 28))=W0:=⟨_,rfl⟩;go_enter func84,ntmps84;go_wp2_with fail;obtain⟨W0,hW0⟩:=W0E;rw[hW0]at B0 X0|-;clear hW0;have s0:w.heap.size<W0.heap.size:=X0.lt
 have Q:=G (fun W(hb:By W0 W)=>show W.cell? ⟨w.heap.size,0,N⟩=Z (H A0 ss.length k0)/\W.cell? ⟨w.heap.size,1,N⟩=Z (H A1 ms.length k1)/\W.cell? ⟨w.heap.size,2,N⟩=Z (H A2 rs.length k2)from
  have X:=X0.below hb s0
  ⟨X.cell rfl,X.cell rfl,X.cell rfl⟩)
 have BB:=G (fun W(hb:By W0 W)=>B0.trans (hb.mono B0.size));clear X0;with_reducible refine(CC.out _ B0).mono ?_
 rintro e W1 ⟨rfl,hb1⟩;obtain⟨q0,q1,q2⟩:=Q.out W1 hb1;generalize hc:chk ss=c at *;have HC:=G hc;clear hc CC;by_cases h0:¬c=0
 ·go_wp2_with fail
  go_ret;exact⟨aQ (N0.out h0).symm,BB.out _ hb1⟩
 replace h0:=Decidable.not_not.1 h0;subst h0;clear N0;go_wp2_with fail;with_reducible refine(MC.out _ (BB.out _ hb1)).mono ?_
 rintro e W2 ⟨rfl,hb2⟩;replace hb2:=hb1.trans (hb2.mono hb1.size);clear q0 q1 q2 hb1 MC;obtain⟨q0,q1,q2⟩:=Q.out W2 hb2;generalize hc:dI ms=c at *;have HMC:=G hc;clear hc;by_cases h0:¬c=0
 ·go_wp2_with fail
  go_ret;exact⟨aQ (N1.out (by trivial) h0).symm,BB.out _ hb2⟩
 replace h0:=Decidable.not_not.1 h0;subst h0;clear N1;go_wp2_with fail;with_reducible refine(VC.out _ (BB.out _ hb2)).mono ?_
 rintro e W3 ⟨rfl,hb3⟩;replace hb3:=hb2.trans (hb3.mono hb2.size);clear q0 q1 q2 hb2 VC;obtain⟨q0,q1,q2⟩:=Q.out W3 hb3;generalize hc:kL rs=c at *;have HSC:=G hc;clear hc;cases c with
 |false=>
  go_wp2_with fail;go_ret;exact⟨aQ (N2.out (by trivial) (by trivial) (by trivial)).symm,BB.out _ hb3⟩
 |true=>
 have C3:=U (Ck3 ⟨ss,ms,rs⟩) (⟨HC.out,HMC.out,HSC.out⟩);clear N2 HC HSC;go_wp2_with fail;clear q0 q1 q2;go_loopw [5] (fun u wr=>∃i:Nat,i<=ms.length/\u=I J ((i:Int)+1)/\(∀t,(ht:t+1<ms.length)->t<i->¬ms[t+1].frm=ms[t].frm)/\By W0 wr) (fun u _=>ms.length+1-(intOf u).toNat)
 case atStart=>exact⟨0,Nat.zero_le _,rfl,fun t _ h=>absurd h (Nat.not_lt_zero _),hb3⟩
 obtain⟨i,hi,rfl,h1,hb⟩:=hrel;have H1:=G h1;clear h1;obtain⟨q0,q1,q2⟩:=Q.out wr hb;by_cases hlt:i+1<ms.length
 ·obtain⟨b,o,rfl,_,hcell⟩:=(HM.out.below (BB.out _ hb)).at hlt
  obtain⟨E,d,c1,c2,c3,_,_⟩:=hcell i (by omega);obtain⟨E',d',c1',c2',c3',_,_⟩:=hcell (i+1) hlt;clear hcell;have hi0:i<ms.length:=by omega
  have HS:=G (fun(h:ms[i+1].frm=ms[i].frm)=>VI hi0 hlt (Nat.lt_succ_self i) h)
  have HN:=G (fun(h:¬ms[i+1].frm=ms[i].frm)=>show ∀t,(ht:t+1<ms.length)->t<i+1->¬ms[t+1].frm=ms[t].frm from fun t ht g=>by
   by_cases e:t=i
   ·subst e;exact h
   ·exact H1.out t ht (by omega))
  generalize ms[i].frm=f at *;generalize ms[i].toq.length=tl at *;generalize ms[i].tag=tg at *;generalize ms[i+1].frm=f' at *;generalize ms[i+1].toq.length=tl' at *;generalize ms[i+1].tag=tg' at *;clear HM;by_cases heq:f'=f
  ·have HR:=G (N3.out C3.out (HS.out heq))
   go_wp2_with fail;go_region
   all_goals
    go_wp2_with fail;go_ret;exact⟨aQ HR.out.symm,BB.out _ hb.drew⟩
  have HR:=G (HN.out heq);go_wp2_with fail;go_region
  all_goals
   go_wp2_with fail;go_roundw
   case rel=>exact⟨i+1,by omega,by go_num,HR.out,hb.drew⟩
   simp[intOf];omega
 have hst:=U (stB ms=true) (VJ HMC.out (fun k hk=>H1.out k hk (by omega)));have C4:=U (Ck4 ⟨ss,ms,rs⟩) (⟨C3.out,hst.out⟩);clear N3 C3 H1 hst;go_wp2_with fail;clear q0 q1 q2;go_loopw [53] (fun u wr=>∃i:Nat,i<=ms.length/\u=I J i/\(∀t,(ht:t<ms.length)->t<i->dY ms[t]=false)/\By W0 wr) (fun u _=>ms.length-(intOf u).toNat)
 case atStart=>exact⟨0,Nat.zero_le _,rfl,fun t _ h=>absurd h (Nat.not_lt_zero _),hb⟩
 clear hb;obtain⟨i,hi,rfl,hno,hb⟩:=hrel;have HNO:=G hno;clear hno;obtain⟨q0,q1,q2⟩:=Q.out wr hb;by_cases hlt:i<ms.length
 ·obtain⟨b1,o1,rfl,hbl,hcell⟩:=(HM.out.below (BB.out _ hb)).at hlt
  obtain⟨C,cc,c0,c1,c2,hcc,hC⟩:=hcell i hlt;have HB:=G (fun h=>N4.out C4.out (jA hlt h));have HN:=G (fun h=>eK (P:=fun m=>dY m=false) hlt HNO.out h);clear hcell hC;generalize ms[i]=mi at *;have K1:=G (fun(h:¬mi.tag.size=0)=>show dY mi=false from by simp[dY,h]);have K2:=G (fun(h:mi.toq.length=1)=>show dY mi=false from by simp[dY,h]);have K3:=G (fun(h:mi.toq.length=2)=>show dY mi=false from by simp[dY,h]);have K4:=G (fun(h:mi.tag.size=0) (h1:¬mi.toq.length=1) (h2:¬mi.toq.length=2)=>show dY mi=true from by simp[dY,h,h1,h2]);generalize dY mi=kb at *;obtain⟨mf,mt,mg⟩:=mi;dsimp only at *;clear HM;have hb2:=hb.trans (((Below.refl wr.heap.size wr).alloc (Nat.le_refl _) (.cells #[I J mf,H C mt.length cc,.string mg] 154)).mono hb.size);by_cases hg:mg.size=0
  ·have g0:mg.toList=[]:=kN hg
   by_cases h1:mt.length=1
   ·have HQ:=G (HN.out (K2.out h1))
    have d1:(mt.length:Int)=1:=by omega
    clear h1;go_wp2_with fail;go_roundw
    case rel=>exact⟨i+1,by omega,by go_num,HQ.out,hb2⟩
    simp[intOf];omega
   have d1:((mt.length:Int)!=1)=true:=by simp;omega
   by_cases h2:mt.length=2
   ·have HQ:=G (HN.out (K3.out h2))
    have d2:((mt.length:Int)!=2)=false:=by simp;omega
    have hb2':=G hb2;clear h2;go_wp2_with fail;go_roundw
    case rel=>exact⟨i+1,by omega,by go_num,HQ.out,hb2⟩
    simp[intOf];omega
   have HR:=G (HB.out (K4.out hg h1 h2));have d2:((mt.length:Int)!=2)=true:=by simp;omega
   go_wp2_with fail;go_ret;exact⟨aQ HR.out.symm,BB.out _ hb2⟩
  have g0:¬mg.toList=[]:=kM hg;have g1:mg.toList.isEmpty=false:=by simpa using g0
  have HQ:=G (HN.out (K1.out hg));go_wp2_with fail;go_roundw
  case rel=>exact⟨i+1,by omega,by go_num,HQ.out,hb2⟩
  simp[intOf];omega
 have C5:=U (Ck5 ⟨ss,ms,rs⟩) (⟨C4.out,show ms.any dY=false from gC (fun t ht=>HNO.out t ht (by omega))⟩);have C4':=U (Ck4 ⟨ss,ms,rs⟩) C4.out;clear C4 N4 HNO;have N5':=G (fun h=>N5.out C5.out h);clear N5;go_wp2_with fail;clear q0 q1 q2;have B1:W0.heap.size<=W0.heap.size:=Nat.le_refl _
 go_loopw [8,76] (fun v u wr=>∃(i c:Nat)(B:Oa),i<=ms.length/\u=I J i/\v=H B (eC (ms.take i)).length c/\wr.ownsRow W0.heap.size 3 1 (H B (eC (ms.take i)).length c) (eC (ms.take i)).length ((eC (ms.take i)).map (Value.int .i64))/\
  (∀t,(ht:t<ms.length)->t<i->Hg.kind ms[t].frm=0)/\By W0 wr) (fun _ u _=>ms.length-(intOf u).toNat)
 case atStart=>exact⟨0,0,N,Nat.zero_le _,rfl,rfl,World.ownsRow_nil _ _ _ _,fun t _ h=>absurd h (Nat.not_lt_zero _),hb⟩
 clear hb;obtain⟨i,c,B,hi,rfl,rfl,hown,hno,hb⟩:=hrel;have HNO:=G hno;have HOWN:=G hown;clear hno hown;obtain⟨q0,q1,q2⟩:=Q.out wr hb;by_cases hlt:i<ms.length
 ·obtain⟨b1,o1,rfl,hbl,hcell⟩:=(HM.out.below (BB.out _ hb)).at hlt
  obtain⟨C,cc,c0,c1,c2,hcc,hC⟩:=hcell i hlt;have HB:=G (fun h=>N5'.out (GT hlt h));have HN:=G (fun h=>eK (P:=fun m=>Hg.kind m.frm=0) hlt HNO.out h);have HT:=G (VZ hlt);have hTL:=zK (ms.take i);rw[List.length_take]at hTL;clear hcell hC;generalize ms[i]=mi at *;obtain⟨mf,mt,mg⟩:=mi;dsimp only at *;clear HM;have hb2:=hb.trans (((Below.refl wr.heap.size wr).alloc (Nat.le_refl _) (.cells #[I J mf,H C mt.length cc,.string mg] 154)).mono hb.size);have HOWNa:=G (bI HOWN.out ((Below.refl wr.heap.size wr).alloc (Nat.le_refl _) (.cells #[I J mf,H C mt.length cc,.string mg] 154)));generalize hka:Hg.kind mf=ka at *;have HK:=G hka;clear hka;have KF:=G (KC.out mf);rw[HK.out]at KF;by_cases hk0:ka=0
  ·have HQ:=G (HN.out hk0)
   subst hk0;by_cases hg:mg.size=0
   ·have g0:mg.toList=[]:=kN hg
    have hT:=HT.out;rw[if_pos hg,List.append_nil]at hT;have HT2:=G hT;clear hT;go_wp2_with(go_at_call 142;refine(KF.out _).mono ?_;rintro e w' ⟨rfl,rfl⟩);go_roundw
    case rel=>exact⟨i+1,c,B,by omega,by go_num,by rw[HT2.out],by rw[HT2.out];exact HOWNa.out,HQ.out,hb2⟩
    simp[intOf];omega
   have g0:¬mg.toList=[]:=kM hg;have g1:mg.toList.isEmpty=false:=by simpa using g0
   have hT:=HT.out;rw[if_neg hg]at hT;have HT2:=G hT;clear hT;go_wp2_with(first|(go_at_call 142;refine(KF.out _).mono ?_;rintro e w' ⟨rfl,rfl⟩)|(at_builtin;(refine cJ _ _ 33 3 (I J 0) 1 8 rfl rfl underlying33 bK rfl (by decide) (by decide) rfl (HOWNa.out.alloc _) rfl (eE (wr.alloc (.cells #[I J mf,H C mt.length cc,.string mg] 154)) [I J mf] 3 (by simp)) (by simp) (dJ [mf]) (by omega) (by have:=hb2.size;simp at this|-;omega) ?_);intro B1 c1' w1 hown1 hc1' hb1 hg1 hB1));have hb3:=hb2.trans (((ba _ _).mono hb2.size).trans hb1);go_roundw
   case rel=>
    refine⟨i+1,c1',B1,by omega,by go_num,?_,?_,HQ.out,hb3⟩
    ·rw[HT2.out,List.length_append];rfl
    rw[HT2.out,List.length_append,List.map_append];exact hown1
   simp[intOf];omega
  have HR:=G (HB.out hk0);go_wp2_with(go_at_call 142;refine(KF.out _).mono ?_;rintro e w' ⟨rfl,rfl⟩);go_ret;exact⟨aQ HR.out.symm,BB.out _ hb2⟩
 obtain rfl:i=ms.length:=by omega
 have hT:eC (ms.take ms.length)=eC ms:=by rw[List.take_length]
 have hTL:=zK ms;have HI:aB wr B (eC ms):=by rw[hT]at HOWN;exact Sl.of_own HOWN.out
 rw[hT];have HA:=G (fun(h:rns (clz ss) (eC ms) 0 N=[])=>show Ck6 ⟨ss,ms,rs⟩from⟨C5.out,show ms.any (eL ss)=false from GU (fun t ht=>HNO.out t ht ht) h⟩);have HD:=G (fun(h:¬rns (clz ss) (eC ms) 0 N=[])=>N5'.out (GV h));have RR:=G (RC.out B (eC ms).length c (eC ms) wr (BB.out _ hb) HI rfl (by omega));clear HI HOWN hT;generalize eC ms=tg at *;generalize rns (clz ss) tg 0 N=rr at *;go_wp2_with fail;with_reducible refine RR.out.mono ?_
 rintro e W4 ⟨A4,c4,rfl,hc4,hA4,hb4⟩;replace hb4:=hb.trans (hb4.mono hb.size);clear q0 q1 q2;obtain⟨q0,q1,q2⟩:=Q.out W4 hb4;by_cases hr0:rr=[]
 ·have C6:=G (HA.out hr0)
  have hl:rr.length=0:=by rw[hr0];rfl
  have MM:=G (ME.out W4 (BB.out _ hb4) (mO C4'.out.t) (xA C4'.out.m) (nV C6.out.d))
  have FIN:=G (fun cyc lng(h:iW ms cyc lng)=>show r=if cyc=true then 12 else if lng=true then 13 else 0 from by
   have h1:=h.cyc (mO C4'.out.t) (nV C6.out.d)
   rw[N6.out C6.out]
   cases he:dG ms with
   |false=>rw[he]at h1;subst h1;rfl
   | true=>rw[he]at h1;subst h1;rw[h.lng (mO C4'.out.t) (nV C6.out.d) he];simp)
  clear hr0;rw[hl];go_wp2_with fail;with_reducible refine MM.out.mono ?_
  rintro e W5 ⟨cyc,lng,rfl,hok,hb5⟩;replace hb5:=hb4.trans (hb5.mono hb4.size);have HF:=G (FIN.out cyc lng hok);clear q0 q1 q2 hok FIN MM;cases cyc with
  |true=>
   go_wp2_with fail;go_ret;exact⟨aQ HF.out.symm,BB.out _ hb5⟩
  |false=>
   cases lng with
   |true=>
    go_wp2_with fail;go_ret;exact⟨aQ HF.out.symm,BB.out _ hb5⟩
   |false=>
    go_wp2_with fail;go_ret;exact⟨aQ HF.out.symm,BB.out _ hb5⟩
 have HR:=G (HD.out hr0);have hl:0<rr.length:=List.length_pos_iff.2 hr0;have hl2:decide ((0:Int)<(rr.length:Int))=true:=by simp;omega
 go_wp2_with fail;go_ret;exact⟨aQ HR.out.symm,BB.out _ hb4⟩
end
section
open Go.ChangeShapes Go.WideShapes Go.ChangeAt Go.RowKit
section
variable {H:Type}{enc:TypeId×Value->H}{w:Wv}{base:Nat}{spare:Nat->Bool}{held:Bool}{fuel:Nat}{cs:Lv}{x:DataW H×List MemPlace}
instance:Inhabited Spn:=⟨⟨0,0,0⟩⟩
theorem OS:prog.cellsOf 22=1:=by kernel_rfl
theorem QH(h:DataW.trod enc prog w base spare held fuel 22 cs=Z x):
  ∃A len cap,∃l:List Spn,cs=[.slice A len cap]/\l.length=len/\len<=cap/\cap<=9223372036854775807/\bD w A l:=by
 obtain⟨A,len,cap,l,h1,h2,h3,h4,h5,_⟩:=iL (α:=Spn) (fun s=>[I J s.lo,I J s.hi,I J s.val]) 3 (by omega) (fun _=>rfl) (fun _=>True) underlying22 (by kernel_rfl) (fun fuel cs x hl hx=>by
  obtain⟨xs,k,hk,hxy,_,hxl,hfs⟩:=DataW.trod_struct underlying182 hx
  match xs,hxl,cs,hl with
  | [y0,y1,y2],_,[v0,v1,v2],_=>
   have g0:=hfs 0 _ rfl
   have g1:=hfs 1 _ rfl
   have g2:=hfs 2 _ rfl
   simp[mci]at g0 g1 g2
   obtain⟨z0,e0,_,_⟩:=DataW.trod_int underlying3 g0
   obtain⟨z1,e1,_,_⟩:=DataW.trod_int underlying3 g1
   obtain⟨z2,e2,_,_⟩:=DataW.trod_int underlying3 g2
   simp at e0 e1 e2
   subst e0;subst e1;subst e2
   exact⟨⟨z0,z1,z2⟩,rfl,trivial⟩) h
 exact⟨A,len,cap,l,h1,h2,h3,h4,h5⟩
end
structure pU(x:Nrm):Prop where
 z0:x.cls.length<=9223372036854775807
 z1:x.dec.length<=9223372036854775807
 z2:x.exc.length<=9223372036854775807
 ze:∀i,(hi:i<x.dec.length)->x.dec[i].toq.length<=9223372036854775807/\x.dec[i].tag.size<=9223372036854775807
section
variable {H:Type}{enc:TypeId×Value->H}{w:Wv}{base:Nat}{spare:Nat->Bool}{held:Bool}
end
theorem vX:prog.globalNamed "unicodetext/ordering.hangulRanges"=Z 1:=by kernel_rfl
theorem JV:(prog.globals[1]?).map (·.type)=Z 222:=by kernel_rfl
theorem NL{W:Wv}(h:laidMet prog [("unicodetext/ordering.hangulRanges",Rows.laid_unicodetext_ordering_hangulRanges)] W):cK W:=by
 obtain⟨ps,⟨g',t',cs,fuel,p,q,hg',ht',hvar,hd,_,_⟩,_⟩:=h;obtain rfl:=Option.some.inj (vX.symm.trans hg');obtain rfl:=Option.some.inj (JV.symm.trans ht');have cr:prog.cellsOf 179=2:=by kernel_rfl
 have ci:prog.cellsOf 3=1:=by kernel_rfl
 obtain⟨xs,m,_,hxy,hlen,hxl,hel⟩:=DataW.trod_array underlying222 hd;match xs,hxl with
 | [y0,y1,y2,y3],_=>
  simp only[Rows.laid_unicodetext_ordering_hangulRanges,Prod.mk.injEq,DataW.agg.injEq,List.map_cons,List.map_nil,List.cons.injEq,and_true]at hxy;obtain⟨⟨e0,e1,e2,e3⟩,_⟩:=hxy;have pair:∀(enc:TypeId×Value->Unit)(base:Nat)(spare:Nat->Bool)(held:Bool)(i:Nat)(a b:Int)(y:DataW Unit×List MemPlace),DataW.trod enc prog W base spare held m 179 ((cs.toList.drop (i*2)).take 2)=Z y->.agg [.lit (.int .i64 a),.lit (.int .i64 b)]=y.1->cs.toList[i*2]?=Z (I J a)/\cs.toList[i*2+1]?=Z (I J b):=by
   intro enc base spare held i a b y hy he;obtain⟨zs,k,_,hz,hzl,hzn,hfs⟩:=DataW.trod_struct underlying179 hy;match zs,hzn with
   | [u0,u1],_=>
    have g0:=hfs 0 _ rfl;have g1:=hfs 1 _ rfl;obtain⟨z0,f0,rfl,_⟩:=DataW.trod_int underlying3 g0;obtain⟨z1,f1,rfl,_⟩:=DataW.trod_int underlying3 g1;subst hz;simp at he;obtain⟨rfl,rfl⟩:=he;have h0:=congrArg (·[0]?) f0;have h1:=congrArg (·[0]?) f1;simp[ci,List.getElem?_drop]at h0 h1;exact⟨by simpa using h0,by simpa using h1⟩
  rw[cr]at hel;have p0:=pair _ _ _ _ 0 _ _ _ (hel 0 (by omega)) e0;have p1:=pair _ _ _ _ 1 _ _ _ (hel 1 (by omega)) e1;have p2:=pair _ _ _ _ 2 _ _ _ (hel 2 (by omega)) e2;have p3:=pair _ _ _ _ 3 _ _ _ (hel 3 (by omega)) e3;have cell:=fun i=>World.var?_cell vX hvar i
  simp only[<-Array.getElem?_toList]at cell;exact⟨(cell 0).trans p0.1,(cell 1).trans p0.2,(cell 2).trans p1.1,(cell 3).trans p1.2,(cell 4).trans p2.1,(cell 5).trans p2.2,(cell 6).trans p3.1,(cell 7).trans p3.2⟩
end
end Go.Proofs.YtkhmjidaeliccaaGreatDoor
