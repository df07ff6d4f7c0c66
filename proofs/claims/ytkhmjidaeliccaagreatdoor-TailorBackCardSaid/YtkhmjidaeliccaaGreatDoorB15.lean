/- Texts that are merged into one file: TWith, RowCopy, MtcPlain, MtcGrow, TMatch, Cut, TMatchB. -/
import Derived.Test.YtkhmjidaeliccaaGreatDoorB01
import Derived.Test.YtkhmjidaeliccaaGreatDoorB02
import Derived.Test.YtkhmjidaeliccaaGreatDoorB03
import Derived.Test.YtkhmjidaeliccaaGreatDoorB12
import Derived.Test.YtkhmjidaeliccaaGreatDoorB13
import Derived.Test.YtkhmjidaeliccaaGreatDoorB14
import Derived.Laws.CopyOwn
import Derived.Deep.RegionLaw
set_option maxRecDepth 100000
set_option maxHeartbeats 51200000
namespace Go.Proofs.YtkhmjidaeliccaaGreatDoor
open Go.RowKit Go.Maps Go.WideMaps
def topS (cs:List Spn):Int:=cs.foldl (fun r s=>max r s.val) 0
theorem topS_take {cs:List Spn} {i:Nat} (hi:i < cs.length):topS (cs.take (i+1))=max (topS (cs.take i)) cs[i].val:=by
 unfold topS
 rw [List.take_succ_eq_append_getElem hi,List.foldl_append]
 rfl
theorem topS_ge:∀{cs:List Spn} {s:Spn},s ∈ cs→s.val≤topS cs:=by
 intro cs s h
 have key:∀(l:List Spn) (r:Int),r≤l.foldl (fun r s=>max r s.val) r∧∀s ∈ l,s.val≤l.foldl (fun r s=>max r s.val) r:=by
  intro l
  induction l with
  | nil=>intro r;exact ⟨Int.le_refl _,fun s h=>by cases h⟩
  | cons x l ih=>
   intro r
   obtain ⟨h1,h2⟩:=ih (max r x.val)
   refine ⟨by simp only [List.foldl_cons];omega,fun s hs=>?_⟩
   simp only [List.foldl_cons]
   rcases List.mem_cons.1 hs with rfl | hs
   ·omega
   ·exact h2 s hs
 exact (key cs 0).2 s h
theorem cls_top (cs:List Spn) (c:Int):cls cs c≤topS cs:=by
 induction cs with
 | nil=>exact Int.le_refl _
 | cons s r ih=>
  unfold cls
  split
  ·exact topS_ge (by simp)
  ·refine Int.le_trans ih ?_
   unfold topS
   simp only [List.foldl_cons]
   have key:∀(l:List Spn) (a b:Int),a≤b→l.foldl (fun r s=>max r s.val) a≤l.foldl (fun r s=>max r s.val) b:=by
    intro l
    induction l with
    | nil=>intro a b h;exact h
    | cons x l ih=>intro a b h;exact ih _ _ (by show max a x.val≤max b x.val;omega)
   exact key r 0 _ (by omega)
theorem Box.nobool {w:World} {T:Nat} {t:TypeId} {cs:List Value} (h:Box w T t cs) (hn:∀v ∈ cs,∀b,v≠.bool b) {o:Nat} {b:Bool}:w.cell? ⟨T,o,none⟩≠some (.bool b):=by
 unfold Box at h
 intro e
 simp [World.cell?,h] at e
 obtain ⟨h1,h2⟩:=List.getElem?_eq_some_iff.1 e
 exact hn _ (List.getElem_mem h1) b h2
theorem Elts.off {w w':World} {T:Nat} {t:TypeId} {cs:List Value} {E:Option Addr} {es:List Elt} (h:Elts w E es) (hX:Box w T t cs) (hn:∀v ∈ cs,∀b,v≠.bool b) (hg:w.grownBy w' (some T)):Elts w' E es:=by
 by_cases he:es=[]
 ·subst he;exact Sl.nil _ _
 ·have hpos:0 < es.length:=List.length_pos_iff.2 he
  obtain ⟨b,o,rfl,hb,hc⟩:=h.at hpos
  have hne:b≠T:=fun e=>by
   subst e
   exact hX.nobool hn (hc 0 hpos).2.2.2
  intro hnn
  obtain ⟨b',o',hA,hc'⟩:=h hnn
  injection hA with hA
  injection hA with i1 i2
  subst i1;subst i2
  refine ⟨b,o,rfl,fun j u hu=>?_⟩
  exact (World.cell?_of_block (hg.block b hb (fun e=>hne (by injection e)))).trans (hc' j u hu)
theorem TabAt.put {w w':World} {T:Nat} {c:Col} {cl cl':Value} {top top':Int} (h:TabAt w T c cl top) (hg:w.grownBy w' (some T)) (hcl:∀b,cl≠.bool b) (hX:∀cs,Box w T 167 cs→∀A n a B m b M,cs=tabCells A n a B m b c M (longE c.ents) cl top→Box w' T 167 (tabCells A n a B m b c M (longE c.ents) cl' top')):TabAt w' T c cl' top':=by
 obtain ⟨A,n,a,B,m,b,M,k,f,h1,h3,h4⟩:=h.ex
 have hnb:∀v ∈ tabCells A n a B m b c M (longE c.ents) cl top,∀b,v≠.bool b:=by
  intro v hv x
  unfold tabCells at hv
  simp only [List.mem_cons,List.not_mem_nil,or_false] at hv
  rcases hv with rfl | rfl | rfl | rfl | rfl | rfl | rfl | rfl | rfl
  all_goals first | exact hcl x | (intro e;cases e)
 refine ⟨A,n,a,B,m,b,M,k,f,hX _ h1 _ _ _ _ _ _ _ rfl,h3.kept hg (fun e=>?_),fun zs hz=>?_⟩
 ·injection e with e
  subst e
  have h5:=h1.cell (i:=0) (v:=.slice A n a) rfl
  rw [h3.nocell] at h5
  cases h5
 ·have:=h4 zs hz
  cases hl:lastE c.ents zs with
  | none=>rw [hl] at this;exact this
  | some e=>
   rw [hl] at this
   obtain ⟨E,d,g1,g2⟩:=this
   exact ⟨E,d,g1,g2.off h1 hnb hg⟩
def RetWith (T:Nat) (c:Col) (cs:List Spn) (w:World) (e:Ending) (w':World):Prop:=e=.returned (.pointer (some ⟨T,0,none⟩))∧(∃A k,TabAt w' T c (.slice A cs.length k) (topS cs)∧Spans w' A cs)∧w.grownBy w' (some T)
theorem Sl.grownT {W W':World} {U:Nat} {A:Option Addr} {cs:List Value} (h:Sl W A cs) (hg:W.grownBy W' (some U)) (hU:∀b o,A=some ⟨b,o,none⟩→b < W.heap.size→b≠U):Sl W' A cs:=by
 intro hne
 obtain ⟨b,o,hA,hc⟩:=h hne
 refine ⟨b,o,hA,fun j u hu=>?_⟩
 have h1:=hc j u hu
 have hlt:=World.block_lt_of_cell? W _ h1
 exact (World.cell?_of_block (hg.block b hlt (fun e=>hU b o hA hlt (by injection e)))).trans h1
theorem with_any (A0:Option Addr) (n0 k0:Nat) (A1:Option Addr) (n1 k1:Nat) (A2:Option Addr) (n2 k2:Nat) (x:Nrm) (T:Nat) (c:Col) (w0 w:World) (hN:NrmAt w0 A0 n0 A1 n1 A2 n2 x) (hz:NrmSz x) (hL:Laid w0) (hw:Below w0.heap.size w0 w) (hT0:w0.heap.size≤T)
  (hT:TabAt w T c (.slice none 0 0) 0) :
  Calls Tryz.prog 65 #[.pointer (some ⟨T,0,none⟩),.agg #[.slice A0 n0 k0,.slice A1 n1 k1,.slice A2 n2 k2]] w (RetWith T c (usN x).cls w):=by
 have DC:=Lib.hid (fun W (hb:Below w0.heap.size w0 W)=>dCheck_any A0 n0 k0 A1 n1 k1 A2 n2 k2 x W (hN.below hb) hz (hL.below hb))
 have HSP:=Lib.hid hN.s0
 have hn0:=hN.l0
 have hcz:=hz.us.z0
 have US:=Lib.hid (usN_good (x:=x))
 have UB:=Lib.hid (usN_bad (x:=x))
 have HT:=Lib.hid hT
 have hTl:=hT.cl.2
 clear hN hz hL hT
 subst hn0
 have H0:Below w.heap.size w (w.alloc (.cells #[.slice A0 x.cls.length k0,.slice A1 n1 k1,.slice A2 n2 k2] 28)):=(Below.refl _ _).alloc (Nat.le_refl _) _
 have X0:Box (w.alloc (.cells #[.slice A0 x.cls.length k0,.slice A1 n1 k1,.slice A2 n2 k2] 28)) w.heap.size 28 [.slice A0 x.cls.length k0,.slice A1 n1 k1,.slice A2 n2 k2]:=Box.new w _ [.slice A0 x.cls.length k0,.slice A1 n1 k1,.slice A2 n2 k2] rfl
 have W0E:∃W0,(w.alloc (.cells #[.slice A0 x.cls.length k0,.slice A1 n1 k1,.slice A2 n2 k2] 28))=W0:=⟨_,rfl⟩
 generalize nErr x=er at *
 generalize usN x=y at *
 go_enter Tryz.func65,Tryz.ntmps65
 go_wp2_with fail
 obtain ⟨W0,hW0⟩:=W0E
 try rw [hW0] at H0 X0 ⊢
 clear hW0
 have q0:=X0.cell (i:=0) rfl
 have q1:=X0.cell (i:=1) rfl
 have q2:=X0.cell (i:=2) rfl
 have hs0:=X0.lt
 have hbw:Below w0.heap.size w0 W0:=hw.trans (H0.mono hw.size)
 go_wp2_with fail
 with_reducible refine (DC.out _ hbw).mono ?_
 rintro e W1 ⟨rfl,hb1⟩
 have H1:=H0.trans (hb1.mono H0.size)
 have p0:=(hb1.cell (p:=⟨w.heap.size,0,none⟩) hs0).trans q0
 have HT1:=Lib.hid (HT.out.below H1)
 have hbw1:=hbw.trans (hb1.mono hbw.size)
 have hT1l:=HT1.out.cl.2
 clear DC HT q0 q1 q2 X0 hb1
 by_cases he:er=0
 ·obtain rfl:=US.out he
  subst he
  obtain ⟨A3,n3,a3,B3,m3,b3,M3,k3',f3,hX3,hM3,hTF3⟩:=HT1.out.ex
  have f7:=hX3.free 7
  have e7:=HT1.out.cl.1
  clear hX3 hM3 hTF3
  have HT2:=Lib.hid (show TabAt (W1.setCell ⟨T,7,none⟩ (.slice A0 y.cls.length k0)) T c (.slice A0 y.cls.length k0) (topS (y.cls.take 0)) from HT1.out.put (grown_set _ _ _) (fun _=>by intro h;cases h) (fun cs h A n a B m b M e=>by subst e;exact h.set 7 _))
  have hsp1:Spans W1 A0 y.cls:=HSP.out.below hbw1
  have HNE:=Lib.hid (show y.cls≠[]→∀b o,A0=some ⟨b,o,none⟩→b≠T from fun hne b o hA e=>by
   obtain ⟨b',o',hA',hc'⟩:=HSP.out (by cases hy:y.cls with | nil=>exact absurd hy hne | cons s r=>simp [flat3])
   rw [hA] at hA'
   injection hA' with hA'
   injection hA' with i1 i2
   subst i1;subst i2
   cases hy:y.cls with
   | nil=>exact hne hy
   | cons s r=>
    have:=World.block_lt_of_cell? w0 _ (hc' 0 (.int .i64 s.lo) (by rw [hy];rfl))
    simp at this
    omega)
  have HS2:=Lib.hid (show Spans (W1.setCell ⟨T,7,none⟩ (.slice A0 y.cls.length k0)) A0 y.cls from by
   by_cases hne:y.cls=[]
   ·rw [hne];exact Sl.nil _ _
   ·exact Sl.grownT hsp1 (grown_set _ _ _) (fun b o hA _=>HNE.out hne b o hA))
  have HG2:=Lib.hid (show w.grownBy (W1.setCell ⟨T,7,none⟩ (.slice A0 y.cls.length k0)) (some T) from grownR_trans (grownR_below (grownR_refl w _) H1) (grown_set _ _ _))
  have hTl2:T < (W1.setCell ⟨T,7,none⟩ (.slice A0 y.cls.length k0)).heap.size:=HT2.out.cl.2
  have t7:=HT2.out.cl.1
  have W2E:∃W2,(W1.setCell ⟨T,7,none⟩ (.slice A0 y.cls.length k0))=W2:=⟨_,rfl⟩
  clear HT1 hsp1 HSP US UB
  generalize y.cls=cs at *
  go_wp2_with fail
  obtain ⟨W2,hW2⟩:=W2E
  try rw [hW2] at HT2 HS2 HG2 hTl2 t7 ⊢
  clear hW2 f7 e7
  have HNE2:=HNE
  clear HNE
  have HNE:=Lib.hid (fun (b o:Nat) (hA:A0=some ⟨b,o,none⟩) (_:b < W2.heap.size) (hne:cs≠[])=>HNE2.out hne b o hA)
  go_wp2_with fail
  go_loopw [20] (fun u wr=>∃i:Nat,i≤cs.length∧u=.int .i64 i∧TabAt wr T c (.slice A0 cs.length k0) (topS (cs.take i))∧W2.grownBy wr (some T))
   (fun u _=>cs.length - (intOf u).toNat)
  case atStart=>exact ⟨0,Nat.zero_le _,rfl,HT2.out,grownR_refl _ _⟩
  case round=>
   obtain ⟨i,hi,rfl,hT,hgr⟩:=hrel
   have HTr:=Lib.hid hT
   clear hT
   obtain ⟨t7,tl⟩:=HTr.out.cl
   by_cases hlt:i < cs.length
   ·obtain ⟨b,o,hA,hbl,hcell⟩:=HS2.out.at hlt
    obtain ⟨c1',c2',c3'⟩:=hcell i hlt
    have hbT:b≠T:=HNE.out _ _ hA hbl (by rintro rfl;simp at hlt)
    have c1:=hgr.cell c1' (by simpa using hbT)
    have c2:=hgr.cell c2' (by simpa using hbT)
    have c3:=hgr.cell c3' (by simpa using hbT)
    have hbl2:b < wr.heap.size:=Nat.lt_of_lt_of_le hbl hgr.size
    have LS:=Lib.hid (topS_take hlt)
    subst hA
    clear hcell c1' c2' c3'
    generalize cs[i].lo=lo at *
    generalize cs[i].hi=hh at *
    generalize cs[i].val=vv at *
    obtain ⟨A3,n3,a3,B3,m3,b3,M3,k3',f3,hX3,hM3,hTF3⟩:=HTr.out.ex
    have t8:wr.cell? ⟨T,8,none⟩=some (.int .i64 (topS (cs.take i))):=hX3.cell (i:=8) rfl
    have f8:=hX3.free 8
    clear hX3 hM3 hTF3
    have HPT:=Lib.hid (fun (v:Int)=>show TabAt (wr.setCell ⟨T,8,none⟩ (.int .i64 v)) T c (.slice (some ⟨b,o,none⟩) cs.length k0) v from HTr.out.put (grown_set _ _ _) (fun _=>by intro h;cases h) (fun cs h A n a B m b M e=>by subst e;exact h.set 8 _))
    generalize topS (cs.take i)=l0 at *
    have hne8:¬T=wr.heap.size:=by omega
    have al:∀(W:World) (o:Obj),Below W.heap.size W (W.alloc o).drew:=fun W o=>((Below.refl _ _).alloc (Nat.le_refl _) _).drew
    have HGA:=Lib.hid (fun v=>show W2.grownBy ((wr.setCell ⟨T,8,none⟩ v).alloc (.cells #[.int .i64 lo,.int .i64 hh,.int .i64 vv] 182)).drew (some T) from grownR_below (grownR_trans hgr (grown_set _ _ _)) (al _ _))
    have HPA:=Lib.hid (fun v=>(HPT.out v).below (al _ (.cells #[.int .i64 lo,.int .i64 hh,.int .i64 vv] 182)))
    clear HTr HPT hgr al
    go_wp2_with fail
    go_region
    all_goals
     go_wp2_with fail
     go_roundw
     case rel=>
      refine ⟨i+1,by omega,by go_num,?_,HGA.out _⟩
      rw [LS.out]
      first | (have e:(if l0 < vv then vv else l0)=max l0 vv:=by { split <;> omega };rw [←e];exact HPA.out _) | exact HPA.out _ | (rw [Int.max_comm];exact HPA.out _)
     case measure=>simp [intOf];omega
   ·obtain rfl:i=cs.length:=by omega
    have hTT:=HTr.out
    rw [List.take_length] at hTT
    have HTT:=Lib.hid hTT
    clear hTT HTr
    go_wp2_with fail
    go_ret
    refine ⟨rfl,⟨_,_,HTT.out,?_⟩,grownR_trans HG2.out hgr⟩
    by_cases hne:cs=[]
    ·rw [hne];exact Sl.nil _ _
    ·exact Sl.grownT HS2.out hgr (fun b o hA hb=>HNE.out _ _ hA hb hne)
 ·have h1:(er==0)=false:=by simpa using he
  obtain rfl:=UB.out he
  have HT2:=Lib.hid (show TabAt W1 T c (.slice none ([]:List Spn).length 0) (topS (([]:List Spn).take 0)) from HT1.out)
  have HS2:=Lib.hid (show Spans W1 none [] from Sl.nil _ _)
  have HG2:=Lib.hid (show w.grownBy W1 (some T) from grownR_below (grownR_refl w _) H1)
  have t7:=HT2.out.cl.1
  clear HT1 HSP US UB
  go_wp2_with fail
  go_loopw [20] (fun u wr=>u=.int .i64 0∧wr=W1) (fun u _=>0 - (intOf u).toNat)
  case atStart=>exact ⟨rfl,rfl⟩
  case round=>
   obtain ⟨rfl,rfl⟩:=hrel
   go_wp2_with fail
   go_ret
   exact ⟨rfl,⟨_,_,HT2.out,HS2.out⟩,HG2.out⟩
end Go.Proofs.YtkhmjidaeliccaaGreatDoor
namespace Go.Proofs.YtkhmjidaeliccaaGreatDoor
open Go.RowKit
theorem run_copy_box {P:Program} (w:World) (dT sT ty elem:TypeId) (hu:P.underlying dT=some (.slice elem)) (hsz:(P.info? elem).map (·.size)=some 1)
  (dp sp:Option Addr) (dLen dCap sLen sCap:Nat) (g off:Nat) (cur:List Value) (t:TypeId) (hg:Box w g t cur) (cs:List Value) (hn:cs.length=Nat.min sLen dLen)
  (hpos:0 < cs.length→dp=some ⟨g,off,none⟩∧∃ad,sp=some ad∧∀j v,cs[j]?=some v→w.cell? (ad.add j)=some v) (hfit:off+cs.length≤cur.length) (h1:∀v ∈ cs,v.oneCell'=true) :
  ∃w',(Builtin.copy_ #[dT,sT] ty #[.slice dp dLen dCap,.slice sp sLen sCap]).run P w=.ok (goInt cs.length) w'∧Box w' g t (splice cur off cs)∧w.grownBy w' (some g):=by
 by_cases h0:cs.length=0
 ·obtain rfl:cs=[]:=List.eq_nil_of_length_eq_zero h0
  exact ⟨w,run_copy_none (P:=P) w dT sT ty elem dp sp dLen dCap sLen sCap hu hsz (by simpa using hn.symm),by simpa [splice] using hg,grownR_refl w _⟩
 ·obtain ⟨rfl,ad,rfl,hsrc⟩:=hpos (by omega)
  refine ⟨_,run_copy_row (P:=P) w dT sT ty elem g off dLen dCap ad sLen sCap cur.toArray t cs hu hsz hg hn hsrc (by simpa using hfit) h1,?_,?_⟩
  ·simpa [splice,Box] using setRow_heap w g _ _ t _ hg
  ·exact ⟨rfl,rfl,rfl,by simp [World.setRow],fun k hk hne=>setRow_other w g k _ (fun e=>hne (by rw [e]))⟩
theorem anyH_copy {P:Program} {ops:Array Oper} {Q:Exit→Act→World→Prop} {md:Region.Mode} {S:World→Prop} {i:Nat} {oi:Oper} {fuel:Nat} {listed:Array Bool} {a:Act} {w:World} (d:Option Tmp) (hi:ops[i]?=some oi) (hd:oi.dst=d)
  (hr:Region.ready md ops listed=[i]) (hw:Region.wanted oi (yielded ops a.tmps)=true) (o s:Operand) (dT sT:TypeId)
  (ho:oi.op=.call { callee:=.builtin .copy,args:=#[o,s],argTypes:=#[dT,sT] }) (elem:TypeId) (hu:P.underlying dT=some (.slice elem)) (hsz:(P.info? elem).map (·.size)=some 1)
  (dp sp:Option Addr) (dLen dCap sLen sCap:Nat) (hdv:a.eval o=.slice dp dLen dCap) (hsv:a.eval s=.slice sp sLen sCap)
  (g off:Nat) (cur:List Value) (t:TypeId) (hg:Box w g t cur) (cs:List Value) (hn:cs.length=Nat.min sLen dLen)
  (hpos:0 < cs.length→dp=some ⟨g,off,none⟩∧∃ad,sp=some ad∧∀j v,cs[j]?=some v→w.cell? (ad.add j)=some v)
  (hfit:off+cs.length≤cur.length) (h1:∀v ∈ cs,v.oneCell'=true)
  (h:∀w',Box w' g t (splice cur off cs)→w.grownBy w' (some g)→S w'∧wpAnyH P md ops Q S fuel (listed.setIfInBounds i true) (a.put d (goInt cs.length)) w'):wpAnyH P md ops Q S (fuel+1) listed a w:=by
 subst hd
 refine anyH_do hi hr hw (fun K hK=>?_)
 obtain ⟨w',hrun,r1,r2⟩:=run_copy_box (P:=P) w dT sT oi.type elem hu hsz dp sp dLen dCap sLen sCap g off cur t hg cs hn hpos hfit h1
 unfold Oper.wp
 simp [execOp,ho,resolve,invoke,builtin,hdv,hsv,hrun,Result.andThen]
 have:=h w' r1 r2
 exact hK.out _ _ this.1 (fun _=>this.2)
theorem Row.box {w:World} {b off:Nat} {e:TypeId} {pre post:List Value} {d:List Int} (h:Row w b off e pre post d):Box w b e (pre++d.map (Value.int .i64)++post):=h.2
theorem Row.of_box {w:World} {b off:Nat} {e:TypeId} {pre post:List Value} {d:List Int} (hl:pre.length=off) (h:Box w b e (pre++d.map (Value.int .i64)++post)):Row w b off e pre post d:=⟨hl,h⟩
theorem Row.ints {w:World} {b off:Nat} {e:TypeId} {pre post:List Value} {d:List Int} (h:Row w b off e pre post d):Ints w (some ⟨b,off,none⟩) d:=by
 intro _
 refine ⟨b,off,rfl,fun j u hu=>?_⟩
 obtain ⟨z,hz,rfl⟩:∃z,d[j]?=some z∧u=.int .i64 z:=by
  rw [List.getElem?_map] at hu
  cases hz:d[j]? with
  | none=>rw [hz] at hu;cases hu
  | some z=>rw [hz] at hu;injection hu with hu;exact ⟨z,rfl,hu.symm⟩
 exact h.cell hz
theorem Ints.take {w:World} {A:Option Addr} {t:List Int} (h:Ints w A t) (k:Nat):Ints w A (t.take k):=by
 intro hne
 have hne2:t.map (Value.int .i64)≠[]:=by
  intro e
  have:t=[]:=by simpa using e
  subst this
  simp at hne
 obtain ⟨b,o,hA,hc⟩:=h hne2
 refine ⟨b,o,hA,fun j u hu=>hc j u ?_⟩
 rw [List.map_take,List.getElem?_take] at hu
 split at hu
 ·exact hu
 ·cases hu
theorem Row.grown {w w':World} {b off:Nat} {e:TypeId} {pre post:List Value} {d:List Int} {r:Option Nat} (h:Row w b off e pre post d) (hg:w.grownBy w' r) (hne:some b≠r):Row w' b off e pre post d:=h.keep (hg.block b h.lt hne)
theorem moved {pre post:List Value} {part lft r:List Int} {x:Int} {off:Nat} (hl:pre.length=off) :
  (splice (pre++(part++lft++x::r).map (Value.int .i64)++post) (off+part.length+1) (lft.map (Value.int .i64))).set (off+part.length) (.int .i64 x)=pre++(part++[x]++lft++r).map (Value.int .i64)++post:=by
 subst hl
 obtain ⟨h,tl,htl⟩:∃h tl,lft++[x]=h::tl:=by cases lft with | nil=>exact ⟨x,[],rfl⟩ | cons y l=>exact ⟨y,l++[x],rfl⟩
 have hlen:tl.length=lft.length:=by have:=congrArg List.length htl;simp at this;omega
 have e1:pre++(part++lft++x::r).map (Value.int .i64)++post=(pre++part.map (Value.int .i64))++((.int .i64 h)::tl.map (Value.int .i64))++(r.map (Value.int .i64)++post):=by
  have:part++lft++x::r=part++(h::tl)++r:=by rw [←htl];simp
  rw [this]
  simp
 have hP:(pre++part.map (Value.int .i64)).length=pre.length+part.length:=by simp
 have e4:pre++(part++[x]++lft++r).map (Value.int .i64)++post=(pre++part.map (Value.int .i64))++(.int .i64 x::(lft.map (Value.int .i64)++(r.map (Value.int .i64)++post))):=by simp
 rw [e1,e4,←hP]
 generalize pre++part.map (Value.int .i64)=P at *
 unfold splice
 have e2:(P++(Value.int .i64 h::tl.map (Value.int .i64))++(r.map (Value.int .i64)++post)).take (P.length+1)=P++[Value.int .i64 h]:=by
  rw [List.append_assoc,List.take_append,List.take_of_length_le (by omega)]
  congr 1
  rw [show P.length+1 - P.length=1 by omega]
  simp
 have e3:(P++(Value.int .i64 h::tl.map (Value.int .i64))++(r.map (Value.int .i64)++post)).drop (P.length+1+(lft.map (Value.int .i64)).length)=r.map (Value.int .i64)++post:=by
  have:(P++(Value.int .i64 h::tl.map (Value.int .i64))).length=P.length+1+(lft.map (Value.int .i64)).length:=by simp [hlen];omega
  rw [←this,List.drop_left]
 rw [e2,e3,List.append_assoc,List.set_append_right _ _ (Nat.le_refl _),Nat.sub_self]
 rfl
end Go.Proofs.YtkhmjidaeliccaaGreatDoor
namespace Go.Proofs.YtkhmjidaeliccaaGreatDoor.Mtc
open Go.RowKit
section
variable {E:Type} {cl:Int→Int} {ent:List Int→Option (List E)} {imp:Int→List E}
def sz (ent:List Int→Option (List E)) (t:List Int):Nat→Nat
 | 0=>0
 | k+1=>if (ent (t.take (k+1))).isSome=true then k+1 else sz ent t k
theorem sz_le (t:List Int) (k:Nat):sz ent t k≤k:=by
 induction k with
 | zero=>exact Nat.le_refl _
 | succ k ih=>unfold sz;split <;> omega
theorem sz_some {t:List Int} {k:Nat} (h:0 < sz ent t k):(ent (t.take (sz ent t k))).isSome=true:=by
 induction k with
 | zero=>simp [sz] at h
 | succ k ih=>
  unfold sz at h ⊢
  split
  ·next h1=>exact h1
  ·next h1=>rw [if_neg h1] at h;exact ih h
theorem sz_hit {t:List Int} {k:Nat} (h:(ent (t.take (k+1))).isSome=true):sz ent t (k+1)=k+1:=by unfold sz;rw [if_pos h]
theorem sz_miss {t:List Int} {k:Nat} (h:¬(ent (t.take (k+1))).isSome=true):sz ent t (k+1)=sz ent t k:=by
 conv=>lhs;unfold sz
 rw [if_neg h]
theorem sz_min {t:List Int} {L:Nat} (hL:∀zs:List Int,L < zs.length→ent zs=none):∀k,k≤t.length→sz ent t k=sz ent t (min L k)
 | 0,_=>by rw [Nat.min_zero]
 | k+1,hk=>by
  by_cases h:k+1≤L
  ·rw [Nat.min_eq_right h]
  ·have hn:ent (t.take (k+1))=none:=hL _ (by rw [List.length_take];omega)
   rw [sz_miss (by rw [hn];simp),sz_min hL k (by omega)]
   congr 1
   omega
def grow (cl:Int→Int) (ent:List Int→Option (List E)):List Int→List Int→Int→List Int→List Int × List Int
 | part,left,_,[]=>(part,left)
 | part,left,hi,x::r=>
  if cl x=0 then (part,left++x::r)
  else if (ent (part++[x])).isSome=true∧hi < cl x then grow cl ent (part++[x]) left hi r
  else grow cl ent part (left++[x]) (max hi (cl x)) r
theorem grow_len:∀(r part left:List Int) (hi:Int),(grow cl ent part left hi r).1.length+(grow cl ent part left hi r).2.length=part.length+left.length+r.length
 | [],part,left,hi=>by simp [grow]
 | x::r,part,left,hi=>by
  unfold grow
  split
  ·simp;omega
  ·split
   ·rw [grow_len r];simp;omega
   ·rw [grow_len r];simp;omega
theorem grow_part:∀(r part left:List Int) (hi:Int),part.length≤(grow cl ent part left hi r).1.length
 | [],part,left,hi=>by simp [grow]
 | x::r,part,left,hi=>by
  unfold grow
  split
  ·exact Nat.le_refl _
  ·split
   ·have:=grow_part r (part++[x]) left hi;simp at this;omega
   ·exact grow_part r part (left++[x]) _
theorem grow_top:∀(r part left:List Int) (hi:Int),(∀x,cl x≤hi)→grow cl ent part left hi r=(part,left++r)
 | [],part,left,hi,_=>by simp [grow]
 | x::r,part,left,hi,h=>by
  unfold grow
  split
  ·rfl
  ·rw [if_neg (by rintro ⟨_,g⟩;have:=h x;omega),show max hi (cl x)=hi from by have:=h x;omega,grow_top r part _ hi h]
   simp
theorem grow_stop {part left r:List Int} {hi x:Int} (h:cl x=0):grow cl ent part left hi (x::r)=(part,left++x::r):=by
 conv=>lhs;unfold grow
 rw [if_pos h]
theorem grow_take {part left r:List Int} {hi x:Int} (h:¬cl x=0) (h1:(ent (part++[x])).isSome=true) (h2:hi < cl x):grow cl ent part left hi (x::r)=grow cl ent (part++[x]) left hi r:=by
 conv=>lhs;unfold grow
 rw [if_neg h,if_pos ⟨h1,h2⟩]
theorem grow_leave {part left r:List Int} {hi x:Int} (h:¬cl x=0) (h1:¬(ent (part++[x])).isSome=true∨cl x≤hi):grow cl ent part left hi (x::r)=grow cl ent part (left++[x]) (max hi (cl x)) r:=by
 conv=>lhs;unfold grow
 rw [if_neg h,if_neg]
 rintro ⟨g1,g2⟩
 rcases h1 with h1 | h1
 ·exact h1 g1
 ·omega
theorem grow_ent:∀(r part left:List Int) (hi:Int),(ent part).isSome=true→(ent (grow cl ent part left hi r).1).isSome=true
 | [],part,left,hi,h=>by simpa [grow] using h
 | x::r,part,left,hi,h=>by
  unfold grow
  split
  ·exact h
  ·split
   ·next h1=>exact grow_ent r _ left hi h1.1
   ·exact grow_ent r part _ _ h
def matched (cl:Int→Int) (ent:List Int→Option (List E)) (t:List Int):List Int × List Int × Bool:=
 if sz ent t t.length=0 then (t.take 1,t.drop 1,false)
 else ((grow cl ent (t.take (sz ent t t.length)) [] 0 (t.drop (sz ent t t.length))).1,(grow cl ent (t.take (sz ent t t.length)) [] 0 (t.drop (sz ent t t.length))).2,true)
theorem matched_len {t:List Int} (h:t≠[]):(matched cl ent t).2.1.length < t.length∧(matched cl ent t).1.length+(matched cl ent t).2.1.length=t.length:=by
 have hp:0 < t.length:=List.length_pos_iff.2 h
 unfold matched
 split
 ·simp only [List.length_take,List.length_drop];omega
 ·next hn=>
  have h1:=grow_len (cl:=cl) (ent:=ent) (t.drop (sz ent t t.length)) (t.take (sz ent t t.length)) [] 0
  have h2:=grow_part (cl:=cl) (ent:=ent) (t.drop (sz ent t t.length)) (t.take (sz ent t t.length)) [] 0
  have h3:=sz_le (ent:=ent) t t.length
  simp only [List.length_take,List.length_drop,List.length_nil] at h1 h2
  dsimp only
  omega
def ofPart (ent:List Int→Option (List E)) (imp:Int→List E) (p:List Int) (known:Bool):List E:=if known=true then (ent p).getD [] else imp (p.getD 0 0)
def elemsF (cl:Int→Int) (ent:List Int→Option (List E)) (imp:Int→List E):Nat→List Int→List E
 | 0,_=>[]
 | _+1,[]=>[]
 | f+1,x::t=>ofPart ent imp (matched cl ent (x::t)).1 (matched cl ent (x::t)).2.2++elemsF cl ent imp f (matched cl ent (x::t)).2.1
theorem elemsF_more:∀(f g:Nat) (t:List Int),t.length≤f→t.length≤g→elemsF cl ent imp f t=elemsF cl ent imp g t
 | 0,0,t,_,_=>rfl
 | 0,g+1,t,h,_=>by
  obtain rfl:t=[]:=List.length_eq_zero_iff.1 (by omega)
  rfl
 | f+1,0,t,_,h=>by
  obtain rfl:t=[]:=List.length_eq_zero_iff.1 (by omega)
  rfl
 | f+1,g+1,[],_,_=>rfl
 | f+1,g+1,x::t,h1,h2=>by
  have h:=(matched_len (cl:=cl) (ent:=ent) (t:=x::t) (by simp)).1
  unfold elemsF
  rw [elemsF_more f g _ (by omega) (by omega)]
def elems (cl:Int→Int) (ent:List Int→Option (List E)) (imp:Int→List E) (t:List Int):List E:=elemsF cl ent imp t.length t
theorem elems_nil:elems cl ent imp []=[]:=rfl
theorem elems_step {t:List Int} (h:t≠[]):elems cl ent imp t=ofPart ent imp (matched cl ent t).1 (matched cl ent t).2.2++elems cl ent imp (matched cl ent t).2.1:=by
 cases t with
 | nil=>exact absurd rfl h
 | cons x t=>
  have hl:=(matched_len (cl:=cl) (ent:=ent) (t:=x::t) (by simp)).1
  show ofPart ent imp (matched cl ent (x::t)).1 (matched cl ent (x::t)).2.2++elemsF cl ent imp t.length (matched cl ent (x::t)).2.1=_
  rw [elemsF_more (cl:=cl) (ent:=ent) (imp:=imp) t.length (matched cl ent (x::t)).2.1.length (matched cl ent (x::t)).2.1 (by simp at hl;omega) (Nat.le_refl _)]
  rfl
end
end Go.Proofs.YtkhmjidaeliccaaGreatDoor.Mtc
namespace Go.Proofs.YtkhmjidaeliccaaGreatDoor.Mtc
open Go.RowKit
section
variable {E:Type} {cl:Int→Int} {ent:List Int→Option (List E)}
structure MG (cl:Int→Int) (ent:List Int→Option (List E)) (t:List Int) (z:Nat) (d part lft:List Int) (i:Nat) (hi:Int):Prop where
 eq:d=part++lft++t.drop i
 at_:part.length+lft.length=i
 le:i≤t.length
 pos:0 < part.length
 inv:grow cl ent part lft hi (t.drop i)=grow cl ent (t.take z) [] 0 (t.drop z)
 is:(ent part).isSome=true
variable {t d part lft:List Int} {z i:Nat} {hi:Int}
theorem MG.start (h1:0 < z) (h2:z≤t.length) (h3:(ent (t.take z)).isSome=true):MG cl ent t z t (t.take z) [] z 0:=
 ⟨by rw [List.append_nil,List.take_append_drop],by simp;omega,h2,by rw [List.length_take];omega,rfl,h3⟩
theorem MG.len (h:MG cl ent t z d part lft i hi):d.length=t.length:=by
 have:=h.at_;have:=h.le
 rw [h.eq,List.length_append,List.length_append,List.length_drop]
 omega
theorem MG.get (h:MG cl ent t z d part lft i hi) (hi2:i < t.length) (hd:i < d.length):d[i]=t[i]:=by
 have e:d[i]?=t[i]?:=by
  rw [h.eq,List.getElem?_append_right (by rw [List.length_append];have:=h.at_;omega),List.length_append,h.at_,Nat.sub_self,List.getElem?_drop,Nat.add_zero]
 rw [List.getElem?_eq_getElem hi2,List.getElem?_eq_getElem hd] at e
 injection e
theorem MG.drop (_:MG cl ent t z d part lft i hi) (hi2:i < t.length):t.drop i=t[i]::t.drop (i+1):=List.drop_eq_getElem_cons hi2
theorem MG.leave (h:MG cl ent t z d part lft i hi) (hi2:i < t.length) (h0:¬cl t[i]=0) (h1:¬(ent (part++[t[i]])).isSome=true∨cl t[i]≤hi) {hi':Int} (hh:hi'=max hi (cl t[i])):MG cl ent t z d part (lft++[t[i]]) (i+1) hi':=by
 subst hh
 refine ⟨?_,by have:=h.at_;simp;omega,hi2,h.pos,?_,h.is⟩
 ·rw [h.eq,h.drop hi2];simp
 ·have:=h.inv
  rw [h.drop hi2,grow_leave h0 h1] at this
  exact this
theorem MG.take (h:MG cl ent t z d part lft i hi) (hi2:i < t.length) (h0:¬cl t[i]=0) (h1:(ent (part++[t[i]])).isSome=true) (h2:hi < cl t[i]):MG cl ent t z (part++[t[i]]++lft++t.drop (i+1)) (part++[t[i]]) lft (i+1) hi:=by
 refine ⟨rfl,by have:=h.at_;simp;omega,hi2,by simp,?_,h1⟩
 have:=h.inv
 rw [h.drop hi2,grow_take h0 h1 h2] at this
 exact this
theorem MG.stop (h:MG cl ent t z d part lft i hi) (hi2:i < t.length) (h0:cl t[i]=0):grow cl ent (t.take z) [] 0 (t.drop z)=(part,lft++t.drop i):=by
 rw [←h.inv,h.drop hi2,grow_stop h0]
theorem MG.fin (h:MG cl ent t z d part lft i hi) (h1:i=t.length∨∀x,cl x≤hi):grow cl ent (t.take z) [] 0 (t.drop z)=(part,lft++t.drop i):=by
 rw [←h.inv]
 rcases h1 with h1 | h1
 ·subst h1
  rw [List.drop_length,List.append_nil]
  rfl
 ·exact grow_top _ _ _ _ h1
end
end Go.Proofs.YtkhmjidaeliccaaGreatDoor.Mtc
namespace Go.Proofs.YtkhmjidaeliccaaGreatDoor
open Go.RowKit Go.Maps Go.WideMaps
def impE (c:Col) (x:Int):List Elt:=if 0≤x∧x≤1114111 then [⟨c.base+x / 32768,c.second,c.third,false⟩,⟨32768+x % 32768,0,0,false⟩] else []
def RetElts (l:List Elt) (w:World) (e:Ending) (w':World):Prop:=∃E d,e=.returned (.slice E l.length d)∧Elts w' E l∧Below w.heap.size w w'
theorem TabAt.cells {w:World} {T:Nat} {c:Col} {cl:Value} {top:Int} (h:TabAt w T c cl top):w.cell? ⟨T,2,none⟩=some (.int .i64 c.base)∧w.cell? ⟨T,3,none⟩=some (.int .i64 c.second)∧w.cell? ⟨T,4,none⟩=some (.int .i64 c.third)∧w.cell? ⟨T,6,none⟩=some (.int .i64 (longE c.ents))∧w.cell? ⟨T,8,none⟩=some (.int .i64 top):=by
 obtain ⟨A,n,a,B,m,b,M,k,f,hX,_⟩:=h.ex
 exact ⟨hX.cell (i:=2) rfl,hX.cell (i:=3) rfl,hX.cell (i:=4) rfl,hX.cell (i:=6) rfl,hX.cell (i:=8) rfl⟩
theorem implicit_any (T:Nat) (c:Col) (cl:Value) (top:Int) (x:Int) (w:World) (hT:TabAt w T c cl top) (hb:1≤c.base∧c.base≤65502) :
  Calls Tryz.prog 126 #[.pointer (some ⟨T,0,none⟩),.int .i64 x] w (RetElts (impE c x) w):=by
 obtain ⟨q2,q3,q4,_,_⟩:=hT.cells
 have V:=Lib.hid (fun W=>cpValid_any x W)
 clear hT
 by_cases hx:0≤x∧x≤1114111
 ·have hv:inR 0 1114111 x=true:=inR_true hx.1 hx.2
  have HI:=Lib.hid (show impE c x=[⟨c.base+x / 32768,c.second,c.third,false⟩,⟨32768+x % 32768,0,0,false⟩] from if_pos hx)
  generalize impE c x=l at *
  obtain rfl:=HI.out
  rw [hv] at V
  clear hv HI
  generalize c.base=b at *
  generalize c.second=s at *
  generalize c.third=t at *
  go_enter Tryz.func126,Tryz.ntmps126
  go_wp2_with fail
  with_reducible refine (V.out _).mono ?_
  rintro e w1 ⟨rfl,rfl⟩
  go_wp2_with fail
  go_region
  all_goals
   go_wp2_with fail
   go_ret
   exact ⟨_,_,rfl,Sl_new _ _ _ rfl,((Below.refl _ _).drew).alloc (Nat.le_refl _) _⟩
 ·have hv:inR 0 1114111 x=false:=by rw [inR_false];omega
  have HI:=Lib.hid (show impE c x=[] from if_neg hx)
  generalize impE c x=l at *
  obtain rfl:=HI.out
  rw [hv] at V
  clear hv HI
  go_enter Tryz.func126,Tryz.ntmps126
  go_wp2_with fail
  with_reducible refine (V.out _).mono ?_
  rintro e w1 ⟨rfl,rfl⟩
  go_wp2_with fail
  go_ret
  exact ⟨none,0,rfl,Sl.nil _ _,Below.refl _ _⟩
def RetMt (mt:List Int × List Int × Bool) (ent:List Int→Option (List Elt)) (imp:Int→List Elt) (b off:Nat) (pre post:List Value) (w:World) (e:Ending) (w':World):Prop:=
 ∃E m,e=.returned (.tuple #[.int .i64 (mt.1.length),.slice E (Mtc.ofPart ent imp mt.1 mt.2.2).length m,.bool mt.2.2])∧Elts w' E (Mtc.ofPart ent imp mt.1 mt.2.2)∧Row w' b off 3 pre post (mt.1++mt.2.1)∧w.grownBy w' (some b)
def RetMatch (cl:Int→Int) (ent:List Int→Option (List Elt)) (imp:Int→List Elt) (b off:Nat) (pre post:List Value) (t:List Int) (w:World) (e:Ending) (w':World):Prop:=RetMt (Mtc.matched cl ent t) ent imp b off pre post w e w'
theorem matched_0 {E:Type} {cl:Int→Int} {ent:List Int→Option (List E)} {t:List Int} (h:Mtc.sz ent t t.length=0):Mtc.matched cl ent t=(t.take 1,t.drop 1,false):=if_pos h
theorem matched_1 {E:Type} {cl:Int→Int} {ent:List Int→Option (List E)} {t:List Int} {z:Nat} (h:Mtc.sz ent t t.length=z) (hz:0 < z):Mtc.matched cl ent t=((Mtc.grow cl ent (t.take z) [] 0 (t.drop z)).1,(Mtc.grow cl ent (t.take z) [] 0 (t.drop z)).2,true):=by
 unfold Mtc.matched
 rw [if_neg (by omega),h]
theorem info_intSz:(Tryz.prog.info? 3).map (·.size)=some 1:=by kernel_rfl
structure MCtx (T:Nat) (c:Col) (cs:List Spn) (A0:Option Addr) (k0:Nat) (b:Nat) (w0:World):Prop where
 tab:TabAt w0 T c (.slice A0 cs.length k0) (topS cs)
 sp:Spans w0 A0 cs
 hb:w0.heap.size≤b
 asc:Asc cs
 csz:cs.length≤1099511627776
 ent:∀x ∈ c.ents,1≤x.codes.length∧x.codes.length≤8
 base:1≤c.base∧c.base≤65502
end Go.Proofs.YtkhmjidaeliccaaGreatDoor
namespace Go.Proofs.YtkhmjidaeliccaaGreatDoor
open Go.RowKit
def subA (A:Option Addr) (a lo:Nat):Option Addr:=if a=lo then A else A.map (fun x=>x.add lo)
theorem Ints.sub {w:World} {A:Option Addr} {t:List Int} (h:Ints w A t) {a lo hi:Nat} (h1:lo≤hi) (h2:hi≤t.length) (h3:t.length≤a):Ints w (subA A a lo) ((t.take hi).drop lo):=by
 unfold subA
 by_cases e:a=lo
 ·rw [if_pos e]
  have:(t.take hi).drop lo=[]:=List.drop_of_length_le (by simp;omega)
  rw [this]
  exact Sl.nil _ _
 ·rw [if_neg e]
  by_cases hl:lo < hi
  ·obtain ⟨b,o,rfl,hc⟩:=h.at (k:=lo) (by omega)
   intro _
   refine ⟨b,o+lo,?_,fun j u hu=>?_⟩
   ·simp only [Option.map_some,Addr.add]
    split
    ·next h0=>subst h0;rfl
    ·rfl
   ·have hj:j < hi - lo:=by
     have:=(List.getElem?_eq_some_iff.1 hu).1
     simp at this
     omega
    have hu2:u=.int .i64 (t[lo+j]'(by omega)):=by
     rw [List.getElem?_map,List.getElem?_drop,List.getElem?_take,if_pos (by omega),List.getElem?_eq_getElem (by omega)] at hu
     simpa using hu.symm
    rw [hu2,Nat.add_assoc]
    exact hc (lo+j) (by omega)
  ·have:(t.take hi).drop lo=[]:=List.drop_of_length_le (by simp;omega)
   rw [this]
   exact Sl.nil _ _
theorem run_cut (A:Option Addr) (n a lo hi:Nat) (h1:lo≤hi) (h2:hi≤a) (W:World):(Instr.sliceAt 33 (.slice A n a) (some (.int .i64 lo)) (some (.int .i64 hi)) none).run Tryz.prog W=.ok (.slice (subA A a lo) (hi - lo) (a - lo)) W:=by
 have hu:=Tryz.underlying33
 have he:Tryz.prog.elem 33=3:=by kernel_rfl
 obtain ⟨i,hi',_,hs,_⟩:=info_parts info_int
 rw [run_sliceAt_slice (h:=by rw [he];exact hu),run_slice_lh (ht:=by rw [he];exact hu) (h0:=by omega) (h1:=by omega) (h2:=by omega)]
 simp [sizeOf,typeInfo,he,hi',hs,sliced,subA]
theorem run_cutTo (A:Option Addr) (n a hi:Nat) (h2:hi≤a) (W:World):(Instr.sliceAt 33 (.slice A n a) none (some (.int .i64 hi)) none).run Tryz.prog W=.ok (.slice (subA A a 0) (hi - 0) (a - 0)) W:=by
 have hu:=Tryz.underlying33
 have he:Tryz.prog.elem 33=3:=by kernel_rfl
 obtain ⟨i,hi',_,hs,_⟩:=info_parts info_int
 rw [run_sliceAt_slice (h:=by rw [he];exact hu),run_slice_h (ht:=by rw [he];exact hu) (h0:=by omega) (h2:=by omega)]
 simp [sizeOf,typeInfo,he,hi',hs,sliced,subA]
theorem run_cutFrom (A:Option Addr) (n a lo:Nat) (h1:lo≤n) (W:World):(Instr.sliceAt 33 (.slice A n a) (some (.int .i64 lo)) none none).run Tryz.prog W=.ok (.slice (subA A a lo) (n - lo) (a - lo)) W:=by
 have hu:=Tryz.underlying33
 have he:Tryz.prog.elem 33=3:=by kernel_rfl
 obtain ⟨i,hi',_,hs,_⟩:=info_parts info_int
 rw [run_sliceAt_slice (h:=by rw [he];exact hu),run_slice_l (ht:=by rw [he];exact hu) (h0:=by omega) (h1:=by omega)]
 simp [sizeOf,typeInfo,he,hi',hs,sliced,subA]
end Go.Proofs.YtkhmjidaeliccaaGreatDoor
namespace Go.Proofs.YtkhmjidaeliccaaGreatDoor
open Go.RowKit Go.Maps Go.WideMaps
namespace Mtc
section
variable {E:Type} {cl:Int→Int} {ent:List Int→Option (List E)} {t d part lft:List Int} {z i:Nat} {hi:Int}
theorem MG.take_eq (h:MG cl ent t z d part lft i hi):d.take part.length=part:=by rw [h.eq,List.append_assoc,List.take_left]
theorem MG.mem (h:MG cl ent t z d part lft i hi) {x:Int} (hx:x ∈ part):x ∈ d:=by rw [h.eq];simp [hx]
theorem MG.le_i (h:MG cl ent t z d part lft i hi):part.length≤i:=by have:=h.at_;omega
end
end Mtc
theorem below_of_none {a w:World} (h:a.grownBy w none):Below a.heap.size a w:=⟨h.os,h.tape,h.output,h.size,fun k hk=>h.block k hk (by simp)⟩
theorem cellP {w:World} {b off:Nat} {zs:List Int} (h:Ints w (some ⟨b,off,none⟩) zs) {j:Nat} {u:Value} (hu:(zs.map (Value.int .i64))[j]?=some u):w.cell? ⟨b,off+j,none⟩=some u:=by
 obtain ⟨b',o',hA,hc⟩:=h (by intro e;rw [e] at hu;simp at hu)
 injection hA with hA
 injection hA with h1 h2
 subst h1;subst h2
 exact hc j u hu
theorem tmatch_any (T:Nat) (c:Col) (cs:List Spn) (A0:Option Addr) (k0 b off cap:Nat) (pre post:List Value) (t:List Int) (w0 w:World) (hM:MCtx T c cs A0 k0 b w0) (hw:Below w0.heap.size w0 w) (hR:Row w b off 3 pre post t) (ht:t≠[]) (hbig:t.length≤1048576) (hcap:t.length≤cap) (hcm:cap≤9223372036854775807) (hio:∀z ∈ t,iok z) :
  Calls Tryz.prog 66 #[.pointer (some ⟨T,0,none⟩),.slice (some ⟨b,off,none⟩) t.length cap] w (RetMatch (cls cs) (lastE c.ents) (impE c) b off pre post t w):=by
 have FC:=Lib.hid (fun (A':Option Addr) n cc zs W (hb:Below w0.heap.size w0 W) (hC:Ints W A' zs) (hn:zs.length=n) hn2 hw=>tfind_any T c (.slice A0 cs.length k0) (topS cs) A' n cc zs W (hM.tab.below hb) hC hn hn2 hM.ent hw)
 have CC:=Lib.hid (fun x W (hb:Below w0.heap.size w0 W)=>tclass_any T A0 k0 cs x W (hM.sp.below hb) hM.csz hM.asc (hM.tab.below hb).cl.2 (hM.tab.below hb).cl.1)
 have IC:=Lib.hid (fun x W (hb:Below w0.heap.size w0 W)=>implicit_any T c _ _ x W (hM.tab.below hb) hM.base)
 have TC:=Lib.hid (fun W (hb:Below w0.heap.size w0 W)=>(hM.tab.below hb).cells)
 have LB:=longE_bd (k:=8) (fun x hx=>(hM.ent x hx).2)
 have SM:=Lib.hid (show Mtc.sz (lastE c.ents) t t.length=Mtc.sz (lastE c.ents) t (min (longE c.ents).toNat t.length) from Mtc.sz_min (fun zs hz=>lastE_long (by omega)) _ (Nat.le_refl _))
 have CT:=Lib.hid (cls_top cs)
 have hbb:=hM.hb
 have HIO:=Lib.hid hio
 have HR:=Lib.hid hR
 have hpos:0 < t.length:=List.length_pos_iff.2 ht
 have M0:=Lib.hid (matched_0 (cl:=cls cs) (ent:=lastE c.ents) (t:=t))
 have M1:=Lib.hid (fun z=>matched_1 (cl:=cls cs) (ent:=lastE c.ents) (t:=t) (z:=z))
 obtain ⟨i0,hi0,hiz,his,hib⟩:=info_parts info_int
 clear hM hio hR ht
 unfold RetMatch
 generalize lastE c.ents=ent at *
 generalize cls cs=cl at *
 generalize impE c=imp at *
 generalize topS cs=tp at *
 obtain ⟨L,hL⟩:∃L:Nat,longE c.ents=(L:Int):=⟨(longE c.ents).toNat,by omega⟩
 rw [hL] at TC LB SM
 clear hL
 rw [Int.toNat_natCast] at SM
 have t6:=(TC.out w hw).2.2.2.1
 generalize hmt:Mtc.matched cl ent t=mt at *
 clear hmt
 obtain ⟨z0,hz0⟩:∃z0:Nat,z0=min L t.length:=⟨_,rfl⟩
 rw [←hz0] at SM
 have hz0le:z0≤t.length:=by omega
 have hmin:=fun (W:World) (ts:Array TypeId) (ty:TypeId)=>show (Builtin.min_ ts ty #[.int .i64 (L:Int),.int .i64 (t.length:Int)]).run Tryz.prog W=.ok (.int .i64 (z0:Int)) W from by
  rw [run_min_int2]
  congr 2
  split <;> omega
 clear hz0
 go_enter Tryz.func66,Tryz.ntmps66
 go_wp2_with fail
 clear hmin t6
 go_loopw [7] (fun u wr=>∃z:Nat,z≤t.length∧u=.int .i64 z∧Mtc.sz ent t t.length=Mtc.sz ent t z∧Below w.heap.size w wr) (fun u _=>(intOf u).toNat)
 case atStart=>exact ⟨z0,hz0le,rfl,SM.out,Below.refl _ _⟩
 case round=>
  obtain ⟨z,hz,rfl,hsz,hbel⟩:=hrel
  have HSZ:=Lib.hid hsz
  clear hsz
  have hbw:=hw.trans (hbel.mono hw.size)
  have HRr:=Lib.hid (HR.out.below hbel)
  by_cases hz1:0 < z
  ·have HF:=Lib.hid (FC.out (some ⟨b,off,none⟩) z cap (t.take z) wr hbw (HRr.out.ints.take z) (by rw [List.length_take];omega) (by omega) (fun y hy=>HIO.out y (List.mem_of_mem_take hy)))
   cases he:ent (t.take z) with
   | none=>
    have HS2:=Lib.hid (show Mtc.sz ent t t.length=Mtc.sz ent t (z - 1) from by
     rw [HSZ.out]
     obtain ⟨y,rfl⟩:∃y,z=y+1:=⟨z - 1,by omega⟩
     rw [Mtc.sz_miss (by rw [he];simp)]
     rfl)
    rw [he] at HF
    clear he
    go_wp2_with fail
    refine HF.out.mono ?_
    rintro e W ⟨E,d,rfl,hE,hb⟩
    clear hE HF
    simp only [Option.getD_none,Option.isSome_none]
    go_wp2_with fail
    go_roundw
    case rel=>exact ⟨z - 1,by omega,by go_num,HS2.out,hbel.trans (hb.mono hbel.size)⟩
    case measure=>simp [intOf];omega
   | some l=>
    have HSZE:=Lib.hid (show Mtc.sz ent t t.length=z from by
     rw [HSZ.out]
     obtain ⟨y,rfl⟩:∃y,z=y+1:=⟨z - 1,by omega⟩
     exact Mtc.sz_hit (by rw [he];rfl))
    have HST:=Lib.hid (Mtc.MG.start (cl:=cl) (ent:=ent) (t:=t) hz1 hz (by rw [he];rfl))
    rw [he] at HF
    clear he
    have qz:((z:Int)==0)=false:=by rw [beq_eq_false_iff_ne];omega
    go_wp2_with fail
    refine HF.out.mono ?_
    rintro e W1 ⟨E,d,rfl,hE,hb1⟩
    clear hE HF
    simp only [Option.getD_some,Option.isSome_some]
    have hbel1:=hbel.trans (hb1.mono hbel.size)
    have HR1:=Lib.hid (HR.out.below hbel1)
    have HG1:=Lib.hid (show w.grownBy W1 (some b) from grownR_below (grownR_refl w _) hbel1)
    have hzl:(t.take z).length=z:=by rw [List.length_take];omega
    have HZL:=Lib.hid hzl
    clear hzl HSZ HRr hbw hbel hb1
    go_wp2_with fail
    go_loopw [7,10,11] (fun u l q wr=>∃(d part lft:List Int) (i:Nat) (hi:Int),u=.int .i64 part.length∧l=.int .i64 hi∧q=.int .i64 i∧Mtc.MG cl ent t z d part lft i hi∧Row wr b off 3 pre post d∧(∀x ∈ d,iok x)∧w.grownBy wr (some b))
     (fun _ _ q _=>t.length - (intOf q).toNat)
    case atStart=>exact ⟨t,t.take z,[],z,0,by rw [HZL.out],rfl,rfl,HST.out,HR1.out,HIO.out,HG1.out⟩
    case round=>
     obtain ⟨d,part,lft,i,hi,rfl,rfl,rfl,hmg,hrow,hid,hgr⟩:=hrel
     have HMG:=Lib.hid hmg
     have HRO:=Lib.hid hrow
     have HID:=Lib.hid hid
     have hpi:=hmg.le_i
     have hil:=hmg.le
     have hpp:=hmg.pos
     have hdl:=hmg.len
     have HDL:=Lib.hid hdl
     have hbw:Below w0.heap.size w0 wr:=hw.trans (below_of_grown hgr hbb hw.size)
     have t8:=(TC.out wr hbw).2.2.2.2
     clear hmg hrow hid hdl
     by_cases hil2:i < t.length
     ·have d1:decide ((i:Int) < (t.length:Int))=true:=by simpa using hil2
      by_cases hht:hi < tp
      ·have d2:decide (hi < tp)=true:=by simpa using hht
       have hdi:i < d.length:=by rw [HDL.out];exact hil2
       have ci:wr.cell? ⟨b,off+i,none⟩=some (.int .i64 t[i]):=HRO.out.cell (by rw [List.getElem?_eq_getElem hdi,HMG.out.get hil2 hdi])
       have CX:=Lib.hid (CC.out t[i] wr hbw)
       have STOP:=Lib.hid (fun h=>HMG.out.stop hil2 h)
       have LEAVE:=Lib.hid (fun (hi':Int) h0 h1 hh=>HMG.out.leave (hi':=hi') hil2 h0 h1 hh)
       have TAKE:=Lib.hid (fun h0 h1 h2=>HMG.out.take hil2 h0 h1 h2)
       have HDR:=Lib.hid (show d=part++lft++t[i]::t.drop (i+1) from by rw [HMG.out.eq,HMG.out.drop hil2])
       have hix:=HIO.out t[i] (List.getElem_mem hil2)
       generalize t[i]=x at *
       generalize hcx:cl x=k at *
       have HCX:=Lib.hid hcx
       clear hcx hdi
       go_wp2_with fail
       refine CX.out.mono ?_
       rintro e W2 ⟨rfl,hb2⟩
       have hgr2:=grownR_below hgr hb2
       have HRO2:=Lib.hid (HRO.out.below hb2)
       have hbw2:=hbw.trans (hb2.mono hbw.size)
       clear ci CX t8 HRO
       by_cases hk0:k=0
       ·have HGR:=Lib.hid (STOP.out hk0)
        subst hk0
        clear STOP LEAVE TAKE HDR
        have HMT:=Lib.hid (show mt=(part,lft++t.drop i,true) from by rw [M1.out z HSZE.out hz1,HGR.out])
        have HF:=Lib.hid (FC.out (some ⟨b,off,none⟩) part.length cap part W2 hbw2 (by have h:=(Row.ints HRO2.out).take part.length;rw [HMG.out.take_eq] at h;exact h) rfl (by omega) (fun y hy=>HID.out y (HMG.out.mem hy)))
        have HRW:=Lib.hid (show ∀W',Below W2.heap.size W2 W'→Row W' b off 3 pre post (part++(lft++t.drop i)) from fun W' h=>by rw [←List.append_assoc,←HMG.out.eq];exact Row.below HRO2.out h)
        have HGW:=Lib.hid (show ∀W',Below W2.heap.size W2 W'→w.grownBy W' (some b) from fun W' h=>grownR_below hgr2 h)
        obtain rfl:=HMT.out
        clear HMG HGR HMT
        go_wp2_with fail
        refine HF.out.mono ?_
        rintro e W9 ⟨E9,d9,rfl,hE9,hb9⟩
        have HE9:=Lib.hid hE9
        clear hE9
        go_wp2_with fail
        go_ret3
        exact ⟨E9,d9,rfl,HE9.out,HRW.out _ hb9,HGW.out _ hb9⟩
       ·have q0:(k==0)=false:=by simpa using hk0
        by_cases hkl:k≤hi
        ·have q1:decide (k≤hi)=true:=by simpa using hkl
         have HL:=Lib.hid (LEAVE.out hi hk0 (.inr hkl) (by omega))
         clear STOP LEAVE TAKE HDR
         go_wp2_with fail
         go_roundw
         case rel=>exact ⟨d,part,lft++[x],i+1,hi,rfl,rfl,by go_num,HL.out,HRO2.out,HID.out,hgr2⟩
         case measure=>simp [intOf];omega
        ·have q1:decide (k≤hi)=false:=by simpa using hkl
         have HPX:=Lib.hid (fun (o:Obj)=>show Ints (W2.alloc o) (some ⟨b,off,none⟩) part from by have h:=(Row.ints HRO2.out).take part.length;rw [HMG.out.take_eq] at h;exact Sl.alloc h o)
         have HAL:=Lib.hid (fun (o:Obj)=>show Below W2.heap.size W2 (W2.alloc o) from (Below.refl _ _).alloc (Nat.le_refl _) _)
         go_wp2_with (at_builtin;refine wpList_append_grows _ rfl _ _ 33 rfl 3 i0 (.int .i64 0) 1 8 Tryz.underlying33 hi0 hiz his hib rfl (by decide) (some ⟨b,off,none⟩) part.length part.length (part.map (Value.int .i64)) rfl (by intro h;cases h) (by simp) (by intro a ha j u hu;injection ha with ha;subst ha;rw [Addr.add_lit];exact (cellP (HPX.out _) hu)) ⟨W2.heap.size,0,none⟩ 1 1 [.int .i64 x] rfl rfl (by intro j u hu;rw [Addr.add_lit,Nat.zero_add];cases j with | zero=>(injection hu with hu;subst hu;simp) | succ j=>(simp at hu)) (by intro u hu;simp at hu;subst hu;rfl) (by omega) (by unfold maxLen;omega) (by omega) ?_;intro v3 W3 hown3 hgn3)
         obtain ⟨A3,c3,rfl,hc3⟩:=own_form hown3
         have hb3:Below W2.heap.size W2 W3:=(HAL.out _).trans ((below_of_none hgn3).mono (by simp))
         have hgr3:=grownR_below hgr2 hb3
         have HRO3:=Lib.hid (HRO2.out.below hb3)
         have hbw3:=hbw2.trans (hb3.mono hbw2.size)
         have HI3:=Lib.hid (show Ints W3 A3 (part++[x]) from by have h:=Sl.of_own hown3;unfold Ints;rw [List.map_append];exact h)
         have HF3:=Lib.hid (FC.out A3 (part.length+1) c3 (part++[x]) W3 hbw3 HI3.out (by simp) (by omega) (fun y hy=>by
          rcases List.mem_append.1 hy with hy | hy
          ·exact HID.out y (HMG.out.mem hy)
          ·simp at hy;subst hy;exact hix))
         clear hown3 hgn3 hb3 HI3 HRO2 HPX HAL hgr2 hbw2
         cases he3:ent (part++[x]) with
         | none=>
          have HL:=Lib.hid (LEAVE.out k hk0 (.inl (by rw [he3];simp)) (by omega))
          rw [he3] at HF3
          clear he3 STOP LEAVE TAKE HDR
          go_wp2_with fail
          refine HF3.out.mono ?_
          rintro e W4 ⟨E4,d4,rfl,hE4,hb4⟩
          clear hE4 HF3
          simp only [Option.getD_none,Option.isSome_none]
          go_wp2_with fail
          go_roundw
          case rel=>exact ⟨d,part,lft++[x],i+1,k,rfl,rfl,by go_num,HL.out,HRO3.out.below hb4,HID.out,grownR_below hgr3 hb4⟩
          case measure=>simp [intOf];omega
         | some l3=>
          have HTK:=Lib.hid (TAKE.out hk0 (by rw [he3];rfl) (by omega))
          rw [he3] at HF3
          clear he3 STOP LEAVE TAKE
          go_wp2_with fail
          refine HF3.out.mono ?_
          rintro e W4 ⟨E4,d4,rfl,hE4,hb4⟩
          clear hE4 HF3
          simp only [Option.getD_some,Option.isSome_some]
          have hgr4:=grownR_below hgr3 hb4
          have HRO4:=Lib.hid (HRO3.out.below hb4)
          clear HRO3 hgr3 hbw3 hb4
          obtain rfl:=HDR.out
          clear HDR
          have hlf:lft.length=i - part.length:=by have:=HMG.out.at_;omega
          have HLN:=Lib.hid (show (lft.map (Value.int .i64)).length=Nat.min (i - part.length) (i - part.length) from by rw [List.length_map,hlf];show _=min _ _;omega)
          have HFT:=Lib.hid (show off+part.length+1+(lft.map (Value.int .i64)).length≤(pre++(part++lft++x::t.drop (i+1)).map (Value.int .i64)++post).length from by
           have:=HRO4.out.1
           simp only [List.length_append,List.length_map,List.length_cons]
           omega)
          have HPS:=Lib.hid (show 0 < (lft.map (Value.int .i64)).length→subA (some ⟨b,off,none⟩) cap (part.length+1)=some ⟨b,off+part.length+1,none⟩∧∃ad,subA (some ⟨b,off,none⟩) cap part.length=some ad∧∀j v,(lft.map (Value.int .i64))[j]?=some v→W4.cell? (ad.add j)=some v from by
           intro h0
           rw [List.length_map] at h0
           refine ⟨?_,⟨b,off+part.length,none⟩,?_,?_⟩
           ·unfold subA
            rw [if_neg (by omega),Option.map_some,Addr.add_lit]
            rfl
           ·unfold subA
            rw [if_neg (by omega),Option.map_some,Addr.add_lit]
           ·intro j v hv
            rw [Addr.add_lit]
            have h:=Row.ints HRO4.out
            have h2:=cellP h (j:=part.length+j) (u:=v) (by
             rw [List.map_append,List.map_append,List.append_assoc,List.getElem?_append_right (by simp),List.getElem?_append_left (by
              have:=(List.getElem?_eq_some_iff.1 hv).1
              simp at this ⊢
              omega)]
             simpa using hv)
            rw [Nat.add_assoc]
            exact h2)
          have hc1:=fun (W:World)=>show (Instr.sliceAt 33 (.slice (some ⟨b,off,none⟩) t.length cap) (some (.int .i64 ((part.length:Int)+1))) (some (.int .i64 ((i:Int)+1))) none).run Tryz.prog W=.ok (.slice (subA (some ⟨b,off,none⟩) cap (part.length+1)) (i - part.length) (cap - (part.length+1))) W from by
           have h:=run_cut (some ⟨b,off,none⟩) t.length cap (part.length+1) (i+1) (by omega) (by omega) W
           rw [show ((part.length+1:Nat):Int)=(part.length:Int)+1 from by omega,show ((i+1:Nat):Int)=(i:Int)+1 from by omega,show i+1 - (part.length+1)=i - part.length from by omega] at h
           exact h
          have hc2:=fun (W:World)=>run_cut (some ⟨b,off,none⟩) t.length cap part.length i hpi (by omega) W
          have HBX:=Lib.hid HRO4.out.box
          have hwp:IntKind.i64.wrap ((part.length:Int)+1)=(part.length:Int)+1:=by rw [IntKind.wrap_i64];omega
          have hwi:IntKind.i64.wrap ((i:Int)+1)=(i:Int)+1:=by rw [IntKind.wrap_i64];omega
          clear hlf
          generalize subA (some ⟨b,off,none⟩) cap (part.length+1)=DP at *
          generalize subA (some ⟨b,off,none⟩) cap part.length=SP at *
          go_wp2_with fail
          refine wp_region_held_drew (S:=fun _=>True) (by kernel_rfl) trivial (fun hHeld=>?_)
          refine anyH_take (i:=0) (v:=?_) (some 87) rfl rfl (by kernel_rfl) (by kernel_rfl) (by kernel_rfl) (fun _ _ _ h=>h) (by rfl) (by assumption) ?_ ?_
          rotate_left
          ·intro w hSw;go_simp;try (with_reducible rfl)
          try simp only [Act.put,List.setIfInBounds_toArray,List.set_cons_zero,List.set_cons_succ]
          refine anyH_take (i:=1) (v:=?_) (some 88) rfl rfl (by kernel_rfl) (by kernel_rfl) (by kernel_rfl) (fun _ _ _ h=>h) (by rfl) (by assumption) ?_ ?_
          rotate_left
          ·intro w hSw;go_simp;try (with_reducible rfl)
          try simp only [Act.put,List.setIfInBounds_toArray,List.set_cons_zero,List.set_cons_succ]
          refine tV 2 89 (.int .i64 ((part.length:Int)+1)) ?_ ?_
          ·intro w hSw;go_simp
          try simp only [Act.put,List.setIfInBounds_toArray,List.set_cons_zero,List.set_cons_succ]
          refine anyH_take (i:=3) (v:=?_) (some 90) rfl rfl (by kernel_rfl) (by kernel_rfl) (by kernel_rfl) (fun _ _ _ h=>h) (by rfl) (by assumption) ?_ ?_
          rotate_left
          ·intro w hSw;go_simp;try (with_reducible rfl)
          try simp only [Act.put,List.setIfInBounds_toArray,List.set_cons_zero,List.set_cons_succ]
          refine tV 4 91 (.int .i64 ((i:Int)+1)) ?_ ?_
          ·intro w hSw;go_simp
          try simp only [Act.put,List.setIfInBounds_toArray,List.set_cons_zero,List.set_cons_succ]
          refine tV 5 92 (.slice DP (i - part.length) (cap - (part.length+1))) ?_ ?_
          ·intro w hSw;go_simp
          try simp only [Act.put,List.setIfInBounds_toArray,List.set_cons_zero,List.set_cons_succ]
          refine anyH_take (i:=6) (v:=?_) (some 93) rfl rfl (by kernel_rfl) (by kernel_rfl) (by kernel_rfl) (fun _ _ _ h=>h) (by rfl) (by assumption) ?_ ?_
          rotate_left
          ·intro w hSw;go_simp;try (with_reducible rfl)
          try simp only [Act.put,List.setIfInBounds_toArray,List.set_cons_zero,List.set_cons_succ]
          refine anyH_take (i:=7) (v:=?_) (some 94) rfl rfl (by kernel_rfl) (by kernel_rfl) (by kernel_rfl) (fun _ _ _ h=>h) (by rfl) (by assumption) ?_ ?_
          rotate_left
          ·intro w hSw;go_simp;try (with_reducible rfl)
          try simp only [Act.put,List.setIfInBounds_toArray,List.set_cons_zero,List.set_cons_succ]
          refine anyH_take (i:=8) (v:=?_) (some 95) rfl rfl (by kernel_rfl) (by kernel_rfl) (by kernel_rfl) (fun _ _ _ h=>h) (by rfl) (by assumption) ?_ ?_
          rotate_left
          ·intro w hSw;go_simp;try (with_reducible rfl)
          try simp only [Act.put,List.setIfInBounds_toArray,List.set_cons_zero,List.set_cons_succ]
          refine tV 9 96 (.slice SP (i - part.length) (cap - part.length)) ?_ ?_
          ·intro w hSw;go_simp
          try simp only [Act.put,List.setIfInBounds_toArray,List.set_cons_zero,List.set_cons_succ]
          refine anyH_copy (i:=10) (some 97) rfl rfl (by kernel_rfl) (by rfl) (.tmp 92) (.tmp 96) 33 33 rfl 3 Tryz.underlying33 info_intSz _ _ _ _ _ _ rfl rfl b (off+part.length+1) _ 3 HBX.out (lft.map (Value.int .i64)) HLN.out HPS.out HFT.out (oneCell_ints lft) ?_
          intro W5 hbx5 hg5
          refine ⟨trivial,?_⟩
          try simp only [Act.put,List.setIfInBounds_toArray,List.set_cons_zero,List.set_cons_succ]
          refine wpAnyH_done (by kernel_rfl) ?_ _
          all_goals
           have f5:=hbx5.free (off+part.length)
           obtain ⟨v5,c5⟩:∃v,W5.cell? ⟨b,off+part.length,none⟩=some v:=by
            have hlt:off+part.length < (splice (pre++(part++lft++x::t.drop (i+1)).map (Value.int .i64)++post) (off+part.length+1) (lft.map (Value.int .i64))).length:=by
             rw [length_splice _ _ _ HFT.out]
             have:=HFT.out
             omega
            exact ⟨_,hbx5.cell (List.getElem?_eq_getElem hlt)⟩
           have HR5:=Lib.hid (show Row (W5.setCell ⟨b,off+part.length,none⟩ (.int .i64 x)) b off 3 pre post (part++[x]++lft++t.drop (i+1)) from Row.of_box HRO4.out.1 (by
            have h:=hbx5.set (off+part.length) (.int .i64 x)
            rw [moved HRO4.out.1] at h
            exact h))
           have HG5:=Lib.hid (show w.grownBy (W5.setCell ⟨b,off+part.length,none⟩ (.int .i64 x)) (some b) from grownR_trans (grownR_trans (grownR_drew hgr4) hg5) (grown_set _ _ _))
           have HID5:=Lib.hid (show ∀y ∈ part++[x]++lft++t.drop (i+1),iok y from fun y hy=>HID.out y (by simp only [List.mem_append,List.mem_cons,List.not_mem_nil,or_false] at hy ⊢;rcases hy with ((h | h) | h) | h <;> simp [h]))
           clear hbx5 hg5 hgr4 HRO4 HBX
           go_wp2_with fail
           go_roundw
           case rel=>exact ⟨_,part++[x],lft,i+1,hi,by simp,rfl,by go_num,HTK.out,HR5.out,HID5.out,HG5.out⟩
           case measure=>simp [intOf];omega
      ·have d2:decide (hi < tp)=false:=by simpa using hht
       have HGR:=Lib.hid (HMG.out.fin (.inr fun x=>by have:=CT.out x;omega))
       have HMT:=Lib.hid (show mt=(part,lft++t.drop i,true) from by rw [M1.out z HSZE.out hz1,HGR.out])
       have HF:=Lib.hid (FC.out (some ⟨b,off,none⟩) part.length cap part wr hbw (by have h:=(Row.ints HRO.out).take part.length;rw [HMG.out.take_eq] at h;exact h) rfl (by omega) (fun y hy=>HID.out y (HMG.out.mem hy)))
       have HRW:=Lib.hid (show ∀W',Below wr.heap.size wr W'→Row W' b off 3 pre post (part++(lft++t.drop i)) from fun W' h=>by rw [←List.append_assoc,←HMG.out.eq];exact Row.below HRO.out h)
       have HGW:=Lib.hid (show ∀W',Below wr.heap.size wr W'→w.grownBy W' (some b) from fun W' h=>grownR_below hgr h)
       obtain rfl:=HMT.out
       clear HMG HGR HMT
       go_wp2_with fail
       refine HF.out.mono ?_
       rintro e W9 ⟨E9,d9,rfl,hE9,hb9⟩
       have HE9:=Lib.hid hE9
       clear hE9
       go_wp2_with fail
       go_ret3
       exact ⟨E9,d9,rfl,HE9.out,HRW.out _ hb9,HGW.out _ hb9⟩
     ·have d1:decide ((i:Int) < (t.length:Int))=false:=by simpa using hil2
      have HGR:=Lib.hid (HMG.out.fin (.inl (by omega)))
      have HMT:=Lib.hid (show mt=(part,lft++t.drop i,true) from by rw [M1.out z HSZE.out hz1,HGR.out])
      have HF:=Lib.hid (FC.out (some ⟨b,off,none⟩) part.length cap part wr hbw (by have h:=(Row.ints HRO.out).take part.length;rw [HMG.out.take_eq] at h;exact h) rfl (by omega) (fun y hy=>HID.out y (HMG.out.mem hy)))
      have HRW:=Lib.hid (show ∀W',Below wr.heap.size wr W'→Row W' b off 3 pre post (part++(lft++t.drop i)) from fun W' h=>by rw [←List.append_assoc,←HMG.out.eq];exact Row.below HRO.out h)
      have HGW:=Lib.hid (show ∀W',Below wr.heap.size wr W'→w.grownBy W' (some b) from fun W' h=>grownR_below hgr h)
      obtain rfl:=HMT.out
      clear HMG HGR HMT
      go_wp2_with fail
      refine HF.out.mono ?_
      rintro e W9 ⟨E9,d9,rfl,hE9,hb9⟩
      have HE9:=Lib.hid hE9
      clear hE9
      go_wp2_with fail
      go_ret3
      exact ⟨E9,d9,rfl,HE9.out,HRW.out _ hb9,HGW.out _ hb9⟩
  ·obtain rfl:z=0:=by omega
   have HM:=Lib.hid (M0.out HSZ.out)
   have c0:wr.cell? ⟨b,off,none⟩=some (.int .i64 t[0]):=by
    have h:=HRr.out.cell (i:=0) (List.getElem?_eq_getElem hpos)
    simpa using h
   have HI:=Lib.hid (IC.out t[0] wr hbw)
   have e1:(t.take 1).length=1:=by rw [List.length_take];omega
   have e2:Mtc.ofPart ent imp (t.take 1) false=imp t[0]:=by
    unfold Mtc.ofPart
    rw [if_neg (by simp)]
    congr 1
    cases t with
    | nil=>simp at hpos
    | cons y r=>rfl
   have E1:=Lib.hid e1;have E2:=Lib.hid e2
   clear e1 e2
   obtain rfl:=HM.out
   generalize t[0]=x at *
   go_wp2_with fail
   refine HI.out.mono ?_
   rintro e W9 ⟨E9,d9,rfl,hE9,hb9⟩
   have HE9:=Lib.hid hE9
   clear hE9
   go_wp2_with fail
   go_ret3
   refine ⟨E9,d9,?_,?_,?_,grownR_below (grownR_below (grownR_refl w _) hbel) hb9⟩
   ·simp only [E1.out,E2.out];rfl
   ·simp only [E2.out];exact HE9.out
   ·simp only [List.take_append_drop];exact HRr.out.below hb9
end Go.Proofs.YtkhmjidaeliccaaGreatDoor
