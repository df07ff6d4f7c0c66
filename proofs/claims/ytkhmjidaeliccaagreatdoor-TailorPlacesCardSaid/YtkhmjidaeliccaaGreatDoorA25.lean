/- Texts that are merged into one file: PaParse, TlApl, TlApply. -/
import Derived.Test.YtkhmjidaeliccaaGreatDoorA17
import Derived.Test.YtkhmjidaeliccaaGreatDoorA21
import Derived.Test.YtkhmjidaeliccaaGreatDoorA22
import Derived.Test.YtkhmjidaeliccaaGreatDoorA24
import Derived.Defers
import Derived.Recover
import Derived.Deep.Cut
set_option maxRecDepth 100000
set_option maxHeartbeats 51200000
namespace Go.Proofs.YtkhmjidaeliccaaGreatDoor
open Go.RowKit Tl Pa
theorem catch_idle (p q r:Addr) (w:World) :
  CallsD Tryz.prog 57 #[.pointer (some p),.pointer (some q),.pointer (some r)] .returning w fun e u' w'=>e=.returned (.tuple #[])∧u'=.returning∧w'=w:=by
 have hnil:∀w:World,(binOp BinOp.neq 20 .nilIface .nilIface).run Tryz.prog w=.ok (.bool false) w:=fun _=>by kernel_rfl
 refine callsD_of_wpS Tryz.func57 rfl fun c₀ cs hu=>?_
 apply wpS_seq
 apply wpS_region
 simp [wpOpsS,go_sem,recoverD,hu,Tryz.ntmps57,Exit.thenS,hnil]
 refine wpS_cond (t:=false) (by simp [Act.eval,Array.replicate]) ?_
 simp only [Bool.false_eq_true,if_false]
 refine wpS_of_wp (wp_skip ?_)
 cases c₀
 simp_all [bodyPostS,results,Tryz.results57]
theorem catch_panicking (pb qb rb P:Nat) (at_:Int) (s0 z0 z1:Value) (u:TypeId) (pv:Value) (older:List PanicEntry) (w:World) (h1:w.cell? ⟨pb,0,none⟩=some (.pointer (some ⟨P,0,none⟩))) (h2:w.cell? ⟨P,1,none⟩=some (.int .i64 at_)) (h3:w.cell? ⟨qb,0,none⟩=some s0) (h4:w.cell? ⟨rb,0,none⟩=some z0) (h5:w.cell? ⟨rb,1,none⟩=some z1)
  (f3:w.frozen? ⟨qb,0,none⟩=false) (f4:w.frozen? ⟨rb,0,none⟩=false) (f5:w.frozen? ⟨rb,1,none⟩=false) (hqr:qb≠rb) :
  CallsD Tryz.prog 57 #[.pointer (some ⟨pb,0,none⟩),.pointer (some ⟨qb,0,none⟩),.pointer (some ⟨rb,0,none⟩)] (.panicking ({ v:=.iface u pv,recovered:=false }::older)) w fun e u' w'=>
   e=.returned (.tuple #[])∧u'=.panicking ({ v:=.iface u pv,recovered:=true }::older)∧w'=((w.setCell ⟨qb,0,none⟩ (.slice none 0 0)).setCell ⟨rb,0,none⟩ (.int .i64 3)).setCell ⟨rb,1,none⟩ (.int .i64 at_):=by
 have hnn:∀w:World,(binOp BinOp.neq 20 (.iface u pv) .nilIface).run Tryz.prog w=.ok (.bool true) w:=fun _=>by kernel_rfl
 refine callsD_of_wpS Tryz.func57 rfl fun c₀ cs hu=>?_
 apply wpS_seq
 apply wpS_region
 simp [wpOpsS,go_sem,recoverD,hu,Tryz.ntmps57,Exit.thenS,hnn]
 refine wpS_cond (t:=true) (by simp [Act.eval,Array.replicate]) ?_
 simp only [if_true]
 refine wpS_of_wp ?_
 go_wp2_with fail
 clear h1 h2 h3 h4 h5 f3 f4 f5 hnn
 generalize World.setCell _ _ _=w9
 cases c₀
 simp_all [bodyPostS,results,Tryz.results57]
def Tlrs (w:World) (K:Option Addr) (l:List Tlr):Prop:=∃vs:List (Option Addr × Nat × Option Addr × Nat),vs.length=l.length∧Sl w K (tlrsC vs l)∧∀i,(hi:i < l.length)→(hv:i < vs.length)→Ints w vs[i].1 l[i].anc∧Ints w vs[i].2.2.1 l[i].cds
theorem StepsAt.tlrs {w:World} {P base c:Nat} {K:Option Addr} {l:List Tlr} (h:StepsAt w P base K c l):Tlrs w K l:=by
 obtain ⟨vs,h1,h2,h3⟩:=h.ex
 exact ⟨vs,h1,Sl.of_own h2,fun i hi hv=>⟨(h3 i hi hv).a,(h3 i hi hv).b⟩⟩
def RetParse (r:List Tlr × Int × Int) (w:World) (e:Ending) (w':World):Prop:=∃K c,e=.returned (.tuple #[.slice K r.1.length c,.agg #[.int .i64 r.2.1,.int .i64 r.2.2]])∧Tlrs w' K r.1∧Below w.heap.size w w'
theorem stpN_len {s:ByteArray}:∀{n:Nat} {a:List Int} {b:Bool} {l m:List Tlr} {i j:Nat},stpN s n a b l i=.ok (m,j)→m.length+i≤l.length+j
 | 0,a,b,l,m,i,j,h=>by
  injection h with h;injection h with h h'
  subst h;subst h'
  exact Nat.le_refl _
 | n+1,a,b,l,m,i,j,h=>by
  unfold stpN at h
  split at h
  ·cases h
  ·next j1 h1=>
   have g1:=sgn_ok h1
   split at h
   ·cases h
   ·next j2 h2=>
    have g2:=lit_ok h2
    have g3:=blk_le s j1
    split at h
    ·have g4:=stpN_len h
     simp at g4
     omega
    ·injection h with h;injection h with h h'
     subst h;subst h'
     simp
     omega
theorem chn_len {s:ByteArray} {l m:List Tlr} {i j:Nat} (h:chn s l i=.ok (m,j)):m.length+i≤l.length+j:=by
 rw [chn_eq] at h
 split at h
 ·cases h
 ·next u i1 h1=>
  have g1:=(wrd_ok (by simp) h1).1
  have g2:=blk_le s i1
  simp at g1
  split at h
  ·cases h
  ·next b i2 h2=>
   have g3:=(bfr_ok h2).1
   split at h
   ·cases h
   ·next h3=>
    have g4:=lit_ok h3
    have g5:=stpN_len h
    omega
theorem chsN_more {s:ByteArray}:∀(n m:Nat) (l:List Tlr) (i:Nat),s.size - i≤n→s.size - i≤m→chsN s n l i=chsN s m l i
 | 0,0,l,i,_,_=>rfl
 | 0,m+1,l,i,h,_=>by
  have e:chsN s (m+1) l i=.ok (l,i):=by unfold chsN;rw [if_neg (by omega)]
  rw [e];rfl
 | n+1,0,l,i,_,h=>by
  have e:chsN s (n+1) l i=.ok (l,i):=by unfold chsN;rw [if_neg (by omega)]
  rw [e];rfl
 | n+1,m+1,l,i,h1,h2=>by
  unfold chsN
  by_cases h0:i < s.size
  ·rw [if_pos h0,if_pos h0]
   cases hc:chn s l i with
   | error e=>rfl
   | ok q=>
    obtain ⟨l',j⟩:=q
    have:=chn_ok hc
    dsimp only
    exact chsN_more n m l' j (by omega) (by omega)
  ·rw [if_neg h0,if_neg h0]
def chsR (s:ByteArray) (l:List Tlr) (i:Nat):Rd (List Tlr):=chsN s (s.size - i) l i
theorem chsR_stop {s:ByteArray} {l:List Tlr} {i:Nat} (h:¬i < s.size):chsR s l i=.ok (l,i):=by
 unfold chsR
 cases s.size - i with
 | zero=>rfl
 | succ n=>unfold chsN;rw [if_neg h]
theorem chsR_step {s:ByteArray} {l:List Tlr} {i:Nat} (h:i < s.size):chsR s l i=match chn s l i with | .error e=>.error e | .ok (m,j)=>chsR s m j:=by
 unfold chsR
 rw [show s.size - i=(s.size - (i+1))+1 by omega]
 conv=>lhs;unfold chsN
 rw [if_pos h]
 cases hc:chn s l i with
 | error e=>rfl
 | ok q=>
  obtain ⟨m,j⟩:=q
  have:=chn_ok hc
  dsimp only
  exact chsN_more _ _ m j (by omega) (Nat.le_refl _)
def retP (r:Rd (List Tlr)):List Tlr × Int × Int:=match r with | .error e=>([],3,e) | .ok (l,_)=>(l,0,0)
theorem parseF_small {s:ByteArray} (h:¬65536 < s.size):parseF s=retP (parse s):=by
 unfold parseF
 rw [if_neg h]
 cases parse s <;> rfl
structure PaS (w:World) (n:Nat) (s:ByteArray) (K:Option Addr) (c:Nat) (l:List Tlr) (p:Nat) (wr:World):Prop where
 bS:Box wr n 44 [.slice K l.length c]
 bF:Box wr (n+1) 47 [.int .i64 0,.int .i64 0]
 bP:PsB wr (n+1+1) s p
 bV:Box wr (n+1+1+1) 100 [.pointer (some ⟨n+1+1,0,none⟩)]
 st:StepsAt wr (n+1+1) (n+1+1+1+1) K c l
 bel:Below n w wr
 sz:n+1+1+1+1≤wr.heap.size
section
variable {w wr W:World} {n c p j c':Nat} {s:ByteArray} {K K':Option Addr} {l l':List Tlr}
theorem PaS.below (h:PaS w n s K c l p wr) (hb:Below wr.heap.size wr W):PaS w n s K c l p W:=by
 have:=h.sz
 exact ⟨h.bS.below hb h.bS.lt,h.bF.below hb h.bF.lt,h.bP.below hb h.bP.lt,h.bV.below hb h.bV.lt,h.st.below hb,h.bel.trans (hb.mono (by omega)),by have:=hb.size;omega⟩
theorem PaS.low (h:PaS w n s K c l p wr) (hp:PsL (n+1+1) (n+1+1+1+1) s wr j W):Box W n 44 [.slice K l.length c]∧Box W (n+1) 47 [.int .i64 0,.int .i64 0]∧PsB W (n+1+1) s j∧Box W (n+1+1+1) 100 [.pointer (some ⟨n+1+1,0,none⟩)]∧Below n w W:=
 ⟨(hp.low n (by omega) (by omega)).trans h.bS,(hp.low _ (by omega) (by omega)).trans h.bF,hp.box,(hp.low _ (by omega) (by omega)).trans h.bV,h.bel.trans ⟨hp.os,hp.tape,hp.output,hp.size,fun q hq=>hp.low q (by omega) (by omega)⟩⟩
theorem StepsAt.set {P base q o:Nat} (h:StepsAt wr P base K c l) (hq:q < base) (v:Value):StepsAt (wr.setCell ⟨q,o,none⟩ v) P base K c l:=by
 obtain ⟨vs,h1,h2,h3⟩:=h.ex
 exact ⟨vs,h1,own_ps h2 (grown_set wr ⟨q,o,none⟩ v) hq,fun i hi hv=>(h3 i hi hv).kept (grown_set wr ⟨q,o,none⟩ v) (.inl ⟨q,rfl,hq⟩)⟩
theorem PaS.next (h:PaS w n s K c l p wr) (hp:PsL (n+1+1) (n+1+1+1+1) s wr j W) (hs:StepsAt W (n+1+1) (n+1+1+1+1) K' c' l'):PaS w n s K' c' l' j (W.setCell ⟨n,0,none⟩ (.slice K' l'.length c')):=by
 obtain ⟨b1,b2,b3,b4,b5⟩:=h.low hp
 have hz:=h.sz
 refine ⟨b1.set 0 _,b2.grown (grown_set W ⟨n,0,none⟩ _) (by simp),b3.grown (grown_set W ⟨n,0,none⟩ _) (by simp;omega),b4.grown (grown_set W ⟨n,0,none⟩ _) (by simp;omega),hs.set (by omega) _,b5.setCell (Nat.le_refl _) _,?_⟩
 have:=hp.size
 simp
 omega
end
theorem parse_any (s:ByteArray) (w:World) (hs:s.size≤9223372036854775806):Calls Tryz.prog 19 #[.string s] w (RetParse (parseF s) w):=by
 have hmf:∀(fn:Fn) (first cap:Array Value) (w:World),(Instr.makeFunc fn first cap).run Tryz.prog w=.ok (.func fn first cap) w:=fun _ _ _ _=>rfl
 by_cases hbig:65536 < s.size
 ·have d1:decide ((65536:Int) < (s.size:Int))=true:=by simp;omega
  have hr:parseF s=([],2,0):=by unfold parseF;rw [if_pos hbig]
  rw [hr]
  go_enter_defers Tryz.func19,Tryz.ntmps19
  go_wp2_with fail
  refine ⟨.tuple #[.slice none 0 0,.agg #[.int .i64 2,.int .i64 0]],by simp [results,Tryz.results19,go_sem],?_⟩
  exact ⟨none,0,rfl,⟨[],rfl,fun h=>absurd rfl h,fun i hi _=>absurd hi (by simp)⟩,((Below.refl _ _).alloc (Nat.le_refl _) _).alloc (by simp) _⟩
 ·have d1:decide ((65536:Int) < (s.size:Int))=false:=by simp;omega
  have hsz:s.size≤65536:=by omega
  obtain ⟨r,hr⟩:∃r,parse s=r:=⟨_,rfl⟩
  have HPF:=Lib.hid (show parseF s=retP r from by rw [←hr];exact parseF_small hbig)
  have HR0:=Lib.hid (show r=chsR s [] (skp s 0) from hr.symm)
  have hb0:=blk_sz (s:=s) (i:=0) (Nat.zero_le _)
  generalize parseF s=pf at *
  have B0:Below w.heap.size w ((((w.alloc (.cells #[.slice none 0 0] 44)).alloc (.cells #[.int .i64 0,.int .i64 0] 47)).alloc (.cells #[.string s,.int .i64 0] 102)).alloc (.cells #[.pointer (some ⟨w.heap.size+1+1,0,none⟩)] 100)):=((((Below.refl _ _).alloc (Nat.le_refl _) _).alloc (by simp) _).alloc (by simp <;> omega) _).alloc (by simp <;> omega) _
  have XS:Box ((((w.alloc (.cells #[.slice none 0 0] 44)).alloc (.cells #[.int .i64 0,.int .i64 0] 47)).alloc (.cells #[.string s,.int .i64 0] 102)).alloc (.cells #[.pointer (some ⟨w.heap.size+1+1,0,none⟩)] 100)) w.heap.size 44 [.slice none 0 0]:=(((Box.new w 44 [.slice none 0 0] rfl).below (B:=w.heap.size+1) ((Below.refl _ _).alloc (by simp) _) (by omega)).below (B:=w.heap.size+1) ((Below.refl _ _).alloc (by simp <;> omega) _) (by omega)).below (B:=w.heap.size+1) ((Below.refl _ _).alloc (by simp <;> omega) _) (by omega)
  have XF:Box ((((w.alloc (.cells #[.slice none 0 0] 44)).alloc (.cells #[.int .i64 0,.int .i64 0] 47)).alloc (.cells #[.string s,.int .i64 0] 102)).alloc (.cells #[.pointer (some ⟨w.heap.size+1+1,0,none⟩)] 100)) (w.heap.size+1) 47 [.int .i64 0,.int .i64 0]:=((Box.new _ 47 [.int .i64 0,.int .i64 0] (by simp)).below (B:=w.heap.size+1+1) ((Below.refl _ _).alloc (by simp) _) (by omega)).below (B:=w.heap.size+1+1) ((Below.refl _ _).alloc (by simp <;> omega) _) (by omega)
  have XP:Box ((((w.alloc (.cells #[.slice none 0 0] 44)).alloc (.cells #[.int .i64 0,.int .i64 0] 47)).alloc (.cells #[.string s,.int .i64 0] 102)).alloc (.cells #[.pointer (some ⟨w.heap.size+1+1,0,none⟩)] 100)) (w.heap.size+1+1) 102 [.string s,.int .i64 0]:=(Box.new _ 102 [.string s,.int .i64 0] (by simp)).below (B:=w.heap.size+1+1+1) ((Below.refl _ _).alloc (by simp) _) (by omega)
  have XV:Box ((((w.alloc (.cells #[.slice none 0 0] 44)).alloc (.cells #[.int .i64 0,.int .i64 0] 47)).alloc (.cells #[.string s,.int .i64 0] 102)).alloc (.cells #[.pointer (some ⟨w.heap.size+1+1,0,none⟩)] 100)) (w.heap.size+1+1+1) 100 [.pointer (some ⟨w.heap.size+1+1,0,none⟩)]:=Box.new _ _ _ (by simp)
  have HZ:w.heap.size+1+1+1+1≤(((((w.alloc (.cells #[.slice none 0 0] 44)).alloc (.cells #[.int .i64 0,.int .i64 0] 47)).alloc (.cells #[.string s,.int .i64 0] 102)).alloc (.cells #[.pointer (some ⟨w.heap.size+1+1,0,none⟩)] 100))).heap.size:=by simp
  have W0E:∃W0,((((w.alloc (.cells #[.slice none 0 0] 44)).alloc (.cells #[.int .i64 0,.int .i64 0] 47)).alloc (.cells #[.string s,.int .i64 0] 102)).alloc (.cells #[.pointer (some ⟨w.heap.size+1+1,0,none⟩)] 100))=W0:=⟨_,rfl⟩
  clear hbig hr
  go_enter_defers Tryz.func19,Tryz.ntmps19
  go_wp2_with fail
  obtain ⟨W0,hW0⟩:=W0E
  try rw [hW0] at B0 XS XF XP XV HZ ⊢
  clear hW0
  have H0:=Lib.hid (show PaS w w.heap.size s none 0 [] 0 W0 from ⟨XS,XF,XP,XV,StepsAt.nil _ _ _,B0,HZ⟩)
  have KB:=Lib.hid (blanks_any (w.heap.size+1+1) s 0 W0 XP (Nat.zero_le _) (by omega))
  clear XS XF XP XV HZ B0
  generalize hn:w.heap.size=n at *
  have HN:=Lib.hid hn
  clear hn
  generalize skp s 0=p0 at *
  with_reducible refine KB.out.mono ?_
  rintro e W1 ⟨rfl,hp1⟩
  have H1:=Lib.hid (show PaS w n s none 0 [] p0 W1 from by
   have hz:=H0.out.sz
   have hg:=hp1.gr
   have q:∀b,b < n+1+1+1+1→b≠n+1+1→W1.heap[b]?=W0.heap[b]?:=fun b hb hne=>hg.block b (by omega) (fun e=>hne (by first | (injection e) | (injection e with e;exact e.symm)))
   exact ⟨(q n (by omega) (by omega)).trans H0.out.bS,(q _ (by omega) (by omega)).trans H0.out.bF,hp1.box,(q _ (by omega) (by omega)).trans H0.out.bV,StepsAt.nil _ _ _,H0.out.bel.trans ⟨hg.os,hg.tape,hg.output,hg.size,fun k hk=>q k (by omega) (by omega)⟩,Nat.le_trans hz hg.size⟩)
  clear hp1 KB H0
  go_wp2_with fail
  go_loopw [] (fun wr=>∃(K:Option Addr) (c:Nat) (l:List Tlr) (p:Nat),p≤s.size∧l.length≤p∧Hid (r=chsR s l p)∧PaS w n s K c l p wr) (fun wr=>s.size - psAt (n+1+1) wr)
  case atStart=>exact ⟨none,0,[],p0,hb0,Nat.zero_le _,HR0,H1.out⟩
  case round=>
   obtain ⟨K,c,l,p,hp,hlp,hb,hpa⟩:=hrel
   have HP:=Lib.hid hpa
   have c1:=hpa.bP.cell (i:=1) rfl
   have c0:=hpa.bP.cell (i:=0) rfl
   have cv:=hpa.bV.cell (i:=0) rfl
   clear hpa H1 HR0
   by_cases hlt:p < s.size
   ·have d2:decide ((p:Int) < (s.size:Int))=true:=by simp;omega
    have HST:=Lib.hid (hb.out.trans (chsR_step hlt))
    have HAT:=Lib.hid (show psAt (n+1+1) wr=p from by unfold psAt;rw [c1];rfl)
    have hok:=fun m j=>chn_ok (s:=s) (l:=l) (m:=m) (i:=p) (j:=j)
    have hln:=fun m j=>chn_len (s:=s) (l:=l) (m:=m) (i:=p) (j:=j)
    have KC:=Lib.hid (fun (W:World) (h:PaS w n s K c l p W)=>pchain_any (n+1+1) (n+1+1+1+1) s p K c l W h.bP (by omega) h.sz h.st hp hsz hlp)
    unfold RdL at KC
    go_wp2_with fail
    go_quiet (fail)
    have HP1:=Lib.hid (HP.out.below (below_of_drewN wr nq))
    clear c0 c1 cv HP hb
    generalize World.drewN wr nq=w2 at *
    have KC1:=Lib.hid (KC.out w2 HP1.out)
    have cv:=HP1.out.bV.cell (i:=0) rfl
    have cs:=HP1.out.bS.cell (i:=0) rfl
    clear KC
    cases hc:chn s l p with
    | error f=>
     rw [hc] at HST KC1
     have HF:=Lib.hid (show r=.error f from HST.out)
     clear hc HST
     go_wp2_with fail
     with_reducible refine KC1.out.mono ?_
     rintro e W3 ⟨⟨u,pv,rfl⟩,hp3⟩
     have HL:=Lib.hid (HP1.out.low hp3)
     clear hp3 KC1
     go_wp2_with fail
     obtain ⟨q1,q2,q3,q4,q5⟩:=HL.out
     have cs3:=q1.cell (i:=0) rfl
     have cf0:=q2.cell (i:=0) rfl
     have cf1:=q2.cell (i:=1) rfl
     refine leaves_cons (f:=57) (args:=#[.pointer (some ⟨n+1+1+1,0,none⟩),.pointer (some ⟨n,0,none⟩),.pointer (some ⟨n+1,0,none⟩)]) (by simp) (by simp [go_sem]) ?_
     refine (catch_panicking (n+1+1+1) n (n+1) (n+1+1) f _ _ _ u pv [] W3 (q4.cell (i:=0) rfl) (q3.cell (i:=1) rfl) cs3 cf0 cf1 (q1.free 0) (q2.free 0) (q2.free 1) (by omega)).mono ?_
     rintro e u' w'' ⟨rfl,rfl,rfl⟩
     refine ⟨.tuple #[.slice none 0 0,.agg #[.int .i64 3,.int .i64 f]],by simp [results,Tryz.results19,go_sem,cs3,cf0,cf1],?_⟩
     rw [HPF.out,HF.out]
     refine ⟨none,0,rfl,⟨[],rfl,fun h=>absurd rfl h,fun i hi _=>absurd hi (by simp [retP])⟩,?_⟩
     rw [HN.out]
     exact ((q5.setCell (Nat.le_refl _) _).setCell (by simp) _).setCell (by simp) _
    | ok q=>
     obtain ⟨m,j⟩:=q
     have hj:=hok m j hc
     have hm:=hln m j hc
     rw [hc] at HST KC1
     dsimp only at HST KC1
     clear hc hok hln
     unfold chainV at KC1
     go_wp2_with fail
     with_reducible refine KC1.out.mono ?_
     rintro e W3 ⟨⟨v,rfl,K',c',rfl,hst⟩,hp3⟩
     have HN3:=Lib.hid (HP1.out.next hp3 hst)
     have HL:=Lib.hid (HP1.out.low hp3)
     have cs3:=HL.out.1.cell (i:=0) rfl
     have fs3:=HL.out.1.free 0
     clear hst hp3 KC1 cv cs
     go_wp2_with fail
     go_roundw
     case rel=>exact ⟨K',c',m,j,hj.2,by omega,HST,HN3.out⟩
     case measure=>
      have q1:psAt (n+1+1) (W3.setCell ⟨n,0,none⟩ (.slice K' m.length c'))=j:=by
       unfold psAt
       rw [HN3.out.bP.cell (i:=1) rfl]
       rfl
      rw [q1,HAT.out]
      omega
   ·have d2:decide ((p:Int) < (s.size:Int))=false:=by simp;omega
    have HF:=Lib.hid (hb.out.trans (chsR_stop hlt))
    go_wp2_with fail
    go_quiet (fail)
    have HP1:=Lib.hid (HP.out.below (below_of_drewN wr nq))
    clear c0 c1 cv HP hb
    generalize World.drewN wr nq=w2 at *
    have cs:=HP1.out.bS.cell (i:=0) rfl
    have fs:=HP1.out.bS.free 0
    have cf0:=HP1.out.bF.cell (i:=0) rfl
    have cf1:=HP1.out.bF.cell (i:=1) rfl
    have ff0:=HP1.out.bF.free 0
    have ff1:=HP1.out.bF.free 1
    go_wp2_with fail
    refine leaves_cons (f:=57) (args:=#[.pointer (some ⟨n+1+1+1,0,none⟩),.pointer (some ⟨n,0,none⟩),.pointer (some ⟨n+1,0,none⟩)]) (by simp) (by simp [go_sem]) ?_
    refine (catch_idle _ _ _ _).mono ?_
    rintro e u' w'' ⟨rfl,rfl,rfl⟩
    refine ⟨.tuple #[.slice K l.length c,.agg #[.int .i64 0,.int .i64 0]],by simp [results,Tryz.results19,go_sem,cs,cf0,cf1],?_⟩
    rw [HPF.out,HF.out]
    refine ⟨K,c,rfl,(((HP1.out.st.set (by omega) _).set (by omega) _).set (by omega) _).tlrs,?_⟩
    rw [HN.out]
    exact ((HP1.out.bel.setCell (Nat.le_refl _) _).setCell (by simp) _).setCell (by simp) _
end Go.Proofs.YtkhmjidaeliccaaGreatDoor
namespace Go.Proofs.YtkhmjidaeliccaaGreatDoor
open Go.RowKit Go.Maps Go.WideMaps Tl
theorem stpV_eq (x:Nrm) (c:Col) (t:Tlr):stpV x c t=stepP x c t:=by
 unfold stpV stepP chkV
 by_cases h1:nErr x≠0
 ·rw [if_pos h1,if_pos h1,if_pos h1]
 ·rw [if_neg h1,if_neg h1]
  by_cases h2:colErr c≠0
  ·rw [if_pos h2,if_pos h2,if_pos h2]
  ·rw [if_neg h2,if_neg h2]
   cases h3:kndT t with
   | false=>simp
   | true=>
    cases h4:rngT t.anc with
    | false=>simp
    | true=>
     cases h5:rngT t.cds with
     | false=>simp
     | true=>simp
theorem col_sz {c:Col} (h:colErr c=0) (hn:c.ents.length≤1048576) (hm:c.grps.length≤1048576):ColSz c:=by
 refine ⟨fun i hi=>?_,hn,hm⟩
 have:=(ent_iff c.base _).1 (ents_all (col_ents h) _ (List.getElem_mem hi))
 have h1:=this.c8
 have h2:=this.e16
 omega
theorem stp_sz {x:Nrm} {c:Col} {t:Tlr} (h:(stpV x c t).1=0):(stpV x c t).2.ents.length≤c.ents.length+1∧(stpV x c t).2.grps.length=c.grps.length∧colErr (stpV x c t).2=0:=by
 rw [stpV_eq] at h ⊢
 have he:stepP x c t=(0,(stepP x c t).2):=by rw [←h]
 have h1:=stepP_valid he
 obtain ⟨l,-,-,-,h4,h5⟩:=stepP_found he
 exact ⟨h5,h4,h1⟩
def applyF (x:Nrm):Col→List Tlr→Nat→Int × Int × Col
 | c,[],_=>(0,0,c)
 | c,t::l,i=>if (stpV x c t).1≠0 then ((stpV x c t).1,i,col0) else applyF x (stpV x c t).2 l (i+1)
theorem applyF_step {x:Nrm} {c:Col} {l:List Tlr} {i:Nat} (hi:i < l.length):applyF x c (l.drop i) i=if (stpV x c l[i]).1≠0 then ((stpV x c l[i]).1,(i:Int),col0) else applyF x (stpV x c l[i]).2 (l.drop (i+1)) (i+1):=by
 rw [List.drop_eq_getElem_cons hi]
 rfl
theorem applyF_end {x:Nrm} {c:Col} {l:List Tlr}:applyF x c (l.drop l.length) l.length=(0,0,c):=by
 rw [List.drop_length]
 rfl
theorem Tlrs.below {w w':World} {K:Option Addr} {l:List Tlr} (h:Tlrs w K l) (hb:Below w.heap.size w w'):Tlrs w' K l:=by
 obtain ⟨vs,h1,h2,h3⟩:=h
 exact ⟨vs,h1,h2.below hb,fun i hi hv=>⟨(h3 i hi hv).1.below hb,(h3 i hi hv).2.below hb⟩⟩
theorem tlrsC_get:∀{vs:List (Option Addr × Nat × Option Addr × Nat)} {l:List Tlr} (i f:Nat) (hl:vs.length=l.length) (hi:i < l.length) (_:f < 4),(tlrsC vs l)[i*4+f]?=(tlrC (vs[i]'(by omega)) l[i])[f]?
 | v::vs,t::l,0,f,_,_,hf=>by
  show (tlrC v t++tlrsC vs l)[0*4+f]?=_
  rw [List.getElem?_append_left (by simp [tlrC];omega)]
  simp
 | v::vs,t::l,i+1,f,hl,hi,hf=>by
  have e:(tlrsC (v::vs) (t::l))=tlrC v t++tlrsC vs l:=rfl
  rw [e,List.getElem?_append_right (by simp [tlrC];omega)]
  have h2:(i+1)*4+f - (tlrC v t).length=i*4+f:=by simp [tlrC];omega
  rw [h2,tlrsC_get i f (by simpa using hl) (by simpa using hi) hf]
  rfl
 | [],t::l,_,_,hl,_,_=>by simp at hl
 | _,[],_,_,_,hi,_=>by simp at hi
theorem tlrsC_len:∀{vs:List (Option Addr × Nat × Option Addr × Nat)} {l:List Tlr},vs.length=l.length→(tlrsC vs l).length=l.length*4
 | [],[],_=>rfl
 | v::vs,t::l,h=>by
  show (tlrC v t++tlrsC vs l).length=_
  rw [List.length_append,tlrsC_len (by simpa using h)]
  simp [tlrC]
  omega
 | [],_::_,h=>by simp at h
 | _::_,[],h=>by simp at h
theorem Tlrs.at {w:World} {K:Option Addr} {l:List Tlr} (h:Tlrs w K l) {m:Nat} (hm:m < l.length):∃b o,K=some ⟨b,o,none⟩∧b < w.heap.size∧∀i,(hi:i < l.length)→∃P p Q q,w.cell? ⟨b,o+i*4,none⟩=some (.slice P l[i].anc.length p)∧w.cell? ⟨b,o+i*4+1,none⟩=some (.slice Q l[i].cds.length q)∧w.cell? ⟨b,o+i*4+2,none⟩=some (.int .i64 l[i].lvl)∧w.cell? ⟨b,o+i*4+3,none⟩=some (.bool l[i].bef)∧Ints w P l[i].anc∧Ints w Q l[i].cds:=by
 obtain ⟨vs,h1,h2,h3⟩:=h
 have hne:tlrsC vs l≠[]:=fun e=>by
  have:=tlrsC_len h1
  rw [e] at this
  simp only [List.length_nil] at this
  omega
 obtain ⟨b,o,rfl,hc⟩:=h2 hne
 refine ⟨b,o,rfl,sl_lt h2 hne rfl,fun i hi=>?_⟩
 have hv:i < vs.length:=by omega
 have gt:=fun f (hf:f < 4) u hu=>hc (i*4+f) u ((tlrsC_get i f h1 hi hf).trans hu)
 obtain ⟨a1,a2⟩:=h3 i hi hv
 refine ⟨vs[i].1,vs[i].2.1,vs[i].2.2.1,vs[i].2.2.2,?_,?_,?_,?_,a1,a2⟩
 ·have:=gt 0 (by omega) _ rfl;simpa using this
 ·have:=gt 1 (by omega) _ rfl;simpa [Nat.add_assoc] using this
 ·have:=gt 2 (by omega) _ rfl;simpa [Nat.add_assoc] using this
 ·have:=gt 3 (by omega) _ rfl;simpa [Nat.add_assoc] using this
def ColFr (N:Nat) (w:World) (A B:Option Addr) (c:Col):Prop:=∀Z W',Chg Z w W'→(∀q,Z q→q < N)→ColAt W' A c.ents.length B c.grps.length c
theorem ColFr.here {N:Nat} {w:World} {A B:Option Addr} {c:Col} (h:ColFr N w A B c):ColAt w A c.ents.length B c.grps.length c:=h (fun _=>False) w (Chg.refl _ _) (fun _ e=>e.elim)
theorem ColFr.chg {N:Nat} {Z:Nat→Prop} {w w':World} {A B:Option Addr} {c:Col} (h:ColFr N w A B c) (hc:Chg Z w w') (hZ:∀q,Z q→q < N):ColFr N w' A B c:=fun _ W' hc' hZ'=>
 h (fun q=>q < N) W' ((hc.mono (fun q _ z=>hZ q z)).trans (hc'.mono (fun q _ z=>hZ' q z))) (fun _ z=>z)
theorem ColFr.low {N M:Nat} {w:World} {A B:Option Addr} {c:Col} (h:ColFr N w A B c) (hm:M≤N):ColFr M w A B c:=fun Z W' hc hZ=>h Z W' hc (fun q z=>Nat.lt_of_lt_of_le (hZ q z) hm)
theorem ColFr.below {N:Nat} {w w':World} {A B:Option Addr} {c:Col} (h:ColFr N w A B c) (hb:Below w.heap.size w w'):ColFr N w' A B c:=h.chg (Chg.of_below (S:=fun _=>False) hb) (fun _ e=>e.elim)
theorem cp_fresh {w w':World} {c:Col} {A:Option Addr} {a:Nat} {B:Option Addr} {b base z top:Nat} (hcp:CpE w' base z A a c.ents c.ents.length top) (hgr:w'.ownsRow w.heap.size 98 3 (.slice B c.grps.length b) c.grps.length (flatK Grp.cells c.grps)) (hz1:w.heap.size≤z) (hz2:z < base) (hs:∀g ∈ c.grps,g.name.size≤9223372036854775807):ColFr w.heap.size w' A B c:=by
 intro Z W' hc hZ
 obtain ⟨vs,m,hop⟩:=hcp.open
 refine ⟨⟨vs,hop.len,Sl.of_own (own_chg hop.row hc (fun q hq z=>by have:=(own_blk hop.row hq).1;have:=hZ q z;omega)),fun i hi hv=>hop.hdr2 (grownR_refl w' _) hc (fun q z=>by have:=hZ q z;omega) i hi hv⟩,Sl.of_own (own_chg hgr hc (fun q hq z=>by have:=(own_blk hgr hq).1;have:=hZ q z;omega)),rfl,rfl,hs⟩
end Go.Proofs.YtkhmjidaeliccaaGreatDoor
namespace Go.Proofs.YtkhmjidaeliccaaGreatDoor
open Go.RowKit Go.Maps Go.WideMaps Tl Pa
theorem results_cf {k j:Nat} {fn:Func} (hr:fn.results=#[.cell k 32,.cell j 47]) (tmps:Array Value) (w:World) {b d:Nat} {v0 v1 v2 v3 v4 y0 y1:Value} (ha:tmps.getD k undef=.pointer (some ⟨b,0,none⟩)) (hd:tmps.getD j undef=.pointer (some ⟨d,0,none⟩))
  (c0:w.cell? ⟨b,0,none⟩=some v0) (c1:w.cell? ⟨b,1,none⟩=some v1) (c2:w.cell? ⟨b,2,none⟩=some v2) (c3:w.cell? ⟨b,3,none⟩=some v3) (c4:w.cell? ⟨b,4,none⟩=some v4) (d0:w.cell? ⟨d,0,none⟩=some y0) (d1:w.cell? ⟨d,1,none⟩=some y1) :
  (results fn tmps).run Tryz.prog w=.ok (.tuple #[.agg #[v0,v1,v2,v3,v4],.agg #[y0,y1]]) w:=by
 unfold results
 rw [hr]
 simp only [ha,hd,List.mapM_toArray,List.mapM_cons,List.mapM_nil,asAddr]
 go_simp
def RetApp (r:Int × Int × Col) (w:World) (e:Ending) (w':World):Prop:=∃A a B b,e=.returned (.tuple #[colV A r.2.2.ents.length a B r.2.2.grps.length b r.2.2,.agg #[.int .i64 r.1,.int .i64 r.2.1]])∧ColAt w' A r.2.2.ents.length B r.2.2.grps.length r.2.2∧Below w.heap.size w w'
structure ApS (w W0:World) (x:Nrm) (l:List Tlr) (r:Int × Int × Col) (n m i:Nat) (wr:World) (A:Option Addr) (a:Nat) (B:Option Addr) (b:Nat) (c:Col):Prop where
 eq:applyF x c (l.drop i) i=r
 box:Box wr (w.heap.size+1) 32 [.slice A c.ents.length a,.slice B c.grps.length b,.int .i64 c.base,.int .i64 c.second,.int .i64 c.third]
 fr:ColFr W0.heap.size wr A B c
 sz:ColSz c
 n:c.ents.length≤n+i
 m:c.grps.length=m
 b:Below w.heap.size w wr
 ch:Chg (fun q=>q=w.heap.size+1) W0 wr
theorem apply_any (A0:Option Addr) (n0 k0:Nat) (A1:Option Addr) (n1 k1:Nat) (A2:Option Addr) (n2 k2:Nat) (x:Nrm) (C:Option Addr) (n a:Nat) (B:Option Addr) (m b:Nat) (c:Col) (K:Option Addr) (k:Nat) (l:List Tlr) (w:World) (hN:NrmAt w A0 n0 A1 n1 A2 n2 x) (hz:NrmSz x) (hL:Laid w) (hC:ColAt w C n B m c) (hcz:ColSz c) (hK:Tlrs w K l)
  (hts:∀t ∈ l,t.anc.length≤1024∧t.cds.length≤1024∧(∀z ∈ t.anc,iok z)∧∀z ∈ t.cds,iok z) (hgn:n+l.length≤1048576) :
  Calls Tryz.prog 17 #[.agg #[.slice A0 n0 k0,.slice A1 n1 k1,.slice A2 n2 k2],colV C n a B m b c,.slice K l.length k] w (RetApp (applyF x c l 0) w):=by
 have B0:Below w.heap.size w ((((w.alloc (.cells #[.slice A0 n0 k0,.slice A1 n1 k1,.slice A2 n2 k2] 28)).alloc (.cells #[.slice C n a,.slice B m b,.int .i64 c.base,.int .i64 c.second,.int .i64 c.third] 32)).alloc (.cells #[.slice none 0 0,.slice none 0 0,.int .i64 0,.int .i64 0,.int .i64 0] 32)).alloc (.cells #[.int .i64 0,.int .i64 0] 47)):=((((Below.refl _ _).alloc (Nat.le_refl _) _).alloc (by simp) _).alloc (by simp <;> omega) _).alloc (by simp <;> omega) _
 have X0:Box ((((w.alloc (.cells #[.slice A0 n0 k0,.slice A1 n1 k1,.slice A2 n2 k2] 28)).alloc (.cells #[.slice C n a,.slice B m b,.int .i64 c.base,.int .i64 c.second,.int .i64 c.third] 32)).alloc (.cells #[.slice none 0 0,.slice none 0 0,.int .i64 0,.int .i64 0,.int .i64 0] 32)).alloc (.cells #[.int .i64 0,.int .i64 0] 47)) w.heap.size 28 [.slice A0 n0 k0,.slice A1 n1 k1,.slice A2 n2 k2]:=(((Box.new w 28 [.slice A0 n0 k0,.slice A1 n1 k1,.slice A2 n2 k2] rfl).below ((Below.refl _ _).alloc (Nat.le_refl _) _) (by simp)).below ((Below.refl _ _).alloc (Nat.le_refl _) _) (by simp <;> omega)).below ((Below.refl _ _).alloc (Nat.le_refl _) _) (by simp <;> omega)
 have X1:Box ((((w.alloc (.cells #[.slice A0 n0 k0,.slice A1 n1 k1,.slice A2 n2 k2] 28)).alloc (.cells #[.slice C n a,.slice B m b,.int .i64 c.base,.int .i64 c.second,.int .i64 c.third] 32)).alloc (.cells #[.slice none 0 0,.slice none 0 0,.int .i64 0,.int .i64 0,.int .i64 0] 32)).alloc (.cells #[.int .i64 0,.int .i64 0] 47)) (w.heap.size+1) 32 [.slice C n a,.slice B m b,.int .i64 c.base,.int .i64 c.second,.int .i64 c.third]:=((Box.new (w.alloc (.cells #[.slice A0 n0 k0,.slice A1 n1 k1,.slice A2 n2 k2] 28)) 32 [.slice C n a,.slice B m b,.int .i64 c.base,.int .i64 c.second,.int .i64 c.third] (by simp)).below ((Below.refl _ _).alloc (Nat.le_refl _) _) (by simp)).below ((Below.refl _ _).alloc (Nat.le_refl _) _) (by simp <;> omega)
 have X2:Box ((((w.alloc (.cells #[.slice A0 n0 k0,.slice A1 n1 k1,.slice A2 n2 k2] 28)).alloc (.cells #[.slice C n a,.slice B m b,.int .i64 c.base,.int .i64 c.second,.int .i64 c.third] 32)).alloc (.cells #[.slice none 0 0,.slice none 0 0,.int .i64 0,.int .i64 0,.int .i64 0] 32)).alloc (.cells #[.int .i64 0,.int .i64 0] 47)) (w.heap.size+2) 32 [.slice none 0 0,.slice none 0 0,.int .i64 0,.int .i64 0,.int .i64 0]:=(Box.new ((w.alloc (.cells #[.slice A0 n0 k0,.slice A1 n1 k1,.slice A2 n2 k2] 28)).alloc (.cells #[.slice C n a,.slice B m b,.int .i64 c.base,.int .i64 c.second,.int .i64 c.third] 32)) 32 [.slice none 0 0,.slice none 0 0,.int .i64 0,.int .i64 0,.int .i64 0] (by simp)).below ((Below.refl _ _).alloc (Nat.le_refl _) _) (by simp)
 have X3:Box ((((w.alloc (.cells #[.slice A0 n0 k0,.slice A1 n1 k1,.slice A2 n2 k2] 28)).alloc (.cells #[.slice C n a,.slice B m b,.int .i64 c.base,.int .i64 c.second,.int .i64 c.third] 32)).alloc (.cells #[.slice none 0 0,.slice none 0 0,.int .i64 0,.int .i64 0,.int .i64 0] 32)).alloc (.cells #[.int .i64 0,.int .i64 0] 47)) (w.heap.size+3) 47 [.int .i64 0,.int .i64 0]:=Box.new (((w.alloc (.cells #[.slice A0 n0 k0,.slice A1 n1 k1,.slice A2 n2 k2] 28)).alloc (.cells #[.slice C n a,.slice B m b,.int .i64 c.base,.int .i64 c.second,.int .i64 c.third] 32)).alloc (.cells #[.slice none 0 0,.slice none 0 0,.int .i64 0,.int .i64 0,.int .i64 0] 32)) 47 [.int .i64 0,.int .i64 0] (by simp)
 have W0E:∃W0,((((w.alloc (.cells #[.slice A0 n0 k0,.slice A1 n1 k1,.slice A2 n2 k2] 28)).alloc (.cells #[.slice C n a,.slice B m b,.int .i64 c.base,.int .i64 c.second,.int .i64 c.third] 32)).alloc (.cells #[.slice none 0 0,.slice none 0 0,.int .i64 0,.int .i64 0,.int .i64 0] 32)).alloc (.cells #[.int .i64 0,.int .i64 0] 47))=W0:=⟨_,rfl⟩
 have K6:=Lib.hid (fun W (hb:Below w.heap.size w W)=>copied_any C n a B m b c W (hC.below hb) hcz)
 have KS:=Lib.hid (fun W (hb:Below w.heap.size w W) A a B b (c:Col) P pk Q qk (t:Tlr) (hC:ColAt W A c.ents.length B c.grps.length c) (hcz:ColSz c) (hP:Ints W P t.anc) (hQ:Ints W Q t.cds) (h:t.anc.length≤1024∧t.cds.length≤1024∧(∀z ∈ t.anc,iok z)∧∀z ∈ t.cds,iok z)=>step_any A0 n0 k0 A1 n1 k1 A2 n2 k2 x A c.ents.length a B c.grps.length b c P pk Q qk t W (hN.below hb) hz (hL.below hb) hC hcz hP hQ (by omega) (by omega) h.2.2.1 h.2.2.2 (by have:=elsN_len x c t.anc;omega))
 have HT:=Lib.hid (fun W (hb:Below w.heap.size w W)=>hK.below hb)
 unfold RetStp at KS
 unfold RetCp at K6
 unfold colV at KS K6 ⊢
 have HTS:=Lib.hid hts
 have HCZ:=Lib.hid hcz
 have hCn:=hC.hn
 have hCm:=hC.hm
 have hcm:=hcz.m
 obtain ⟨r,hr⟩:∃r,applyF x c l 0=r:=⟨_,rfl⟩
 have HR:=Lib.hid hr
 have HCN:=Lib.hid hCn
 have HCM:=Lib.hid hCm
 rw [hr]
 clear hr hN hC hL hz hcz hK hts hCn hCm
 go_enter Tryz.func17,Tryz.ntmps17
 go_upto_region 1 with (fail)
 obtain ⟨W0,hW0⟩:=W0E
 try rw [hW0] at B0 X0 X1 X2 X3 ⊢
 clear hW0
 have l0:=X0.lt
 have l1:=X1.lt
 have l2:=X2.lt
 have l3:=X3.lt
 have HB0:=Lib.hid B0
 have HX0:=Lib.hid X0
 have HX1:=Lib.hid X1
 have HX2:=Lib.hid X2
 have HX3:=Lib.hid X3
 have hw0:=B0.size
 clear X0 X1 X2 X3 B0
 have c0:=HX1.out.cell (i:=0) rfl
 have c1:=HX1.out.cell (i:=1) rfl
 have c2:=HX1.out.cell (i:=2) rfl
 have c3:=HX1.out.cell (i:=3) rfl
 have c4:=HX1.out.cell (i:=4) rfl
 have C6:=Lib.hid (K6.out W0 HB0.out)
 clear K6
 go_wp2_with fail
 with_reducible refine C6.out.mono ?_
 rintro e Wf ⟨A',a',B',b',base,zz,top,rfl,hcp,hgr,-,hca,hz1,hz2,hb1⟩
 clear C6 c0 c1 c2 c3 c4
 have HFR:=cp_fresh hcp hgr hz1 hz2 hca.hs
 have hX1f:=HX1.out.below hb1 HX1.out.lt
 have hb1s:=hb1.size
 have g0:=hX1f.cell (i:=0) rfl
 have g1:=hX1f.cell (i:=1) rfl
 have g2:=hX1f.cell (i:=2) rfl
 have g3:=hX1f.cell (i:=3) rfl
 have g4:=hX1f.cell (i:=4) rfl
 have f0:=hX1f.free 0
 have f1:=hX1f.free 1
 have f2:=hX1f.free 2
 have f3:=hX1f.free 3
 have f4:=hX1f.free 4
 have CH:Chg (fun q=>q=w.heap.size+1) Wf (((((Wf.setCell ⟨w.heap.size+1,0,none⟩ (.slice A' c.ents.length a')).setCell ⟨w.heap.size+1,1,none⟩ (.slice B' c.grps.length b')).setCell ⟨w.heap.size+1,2,none⟩ (.int .i64 c.base)).setCell ⟨w.heap.size+1,3,none⟩ (.int .i64 c.second)).setCell ⟨w.heap.size+1,4,none⟩ (.int .i64 c.third)):=Chg.of_grown (gr_set (p:=⟨w.heap.size+1,4,none⟩) (gr_set (p:=⟨w.heap.size+1,3,none⟩) (gr_set (p:=⟨w.heap.size+1,2,none⟩) (gr_set (p:=⟨w.heap.size+1,1,none⟩) (gr_set (p:=⟨w.heap.size+1,0,none⟩) (grownR_refl Wf _) _) _) _) _) _) (fun q e=>(Option.some.inj e).symm)
 have XC:Box (((((Wf.setCell ⟨w.heap.size+1,0,none⟩ (.slice A' c.ents.length a')).setCell ⟨w.heap.size+1,1,none⟩ (.slice B' c.grps.length b')).setCell ⟨w.heap.size+1,2,none⟩ (.int .i64 c.base)).setCell ⟨w.heap.size+1,3,none⟩ (.int .i64 c.second)).setCell ⟨w.heap.size+1,4,none⟩ (.int .i64 c.third)) (w.heap.size+1) 32 [.slice A' c.ents.length a',.slice B' c.grps.length b',.int .i64 c.base,.int .i64 c.second,.int .i64 c.third]:=(((((hX1f.set 0 (.slice A' c.ents.length a')).set 1 (.slice B' c.grps.length b')).set 2 (.int .i64 c.base)).set 3 (.int .i64 c.second)).set 4 (.int .i64 c.third))
 have BC:Below w.heap.size w (((((Wf.setCell ⟨w.heap.size+1,0,none⟩ (.slice A' c.ents.length a')).setCell ⟨w.heap.size+1,1,none⟩ (.slice B' c.grps.length b')).setCell ⟨w.heap.size+1,2,none⟩ (.int .i64 c.base)).setCell ⟨w.heap.size+1,3,none⟩ (.int .i64 c.second)).setCell ⟨w.heap.size+1,4,none⟩ (.int .i64 c.third)):=(HB0.out.trans (hb1.mono HB0.out.size)).trans (Chg.below CH (n:=w.heap.size) (by omega) (fun k (hk:k=w.heap.size+1)=>by omega))
 have FC:=HFR.chg CH (fun q (hq:q=w.heap.size+1)=>by omega)
 have CC:Chg (fun q=>q=w.heap.size+1) W0 (((((Wf.setCell ⟨w.heap.size+1,0,none⟩ (.slice A' c.ents.length a')).setCell ⟨w.heap.size+1,1,none⟩ (.slice B' c.grps.length b')).setCell ⟨w.heap.size+1,2,none⟩ (.int .i64 c.base)).setCell ⟨w.heap.size+1,3,none⟩ (.int .i64 c.second)).setCell ⟨w.heap.size+1,4,none⟩ (.int .i64 c.third)):=(Chg.of_below hb1).trans CH
 have WE1:∃Wc,(((((Wf.setCell ⟨w.heap.size+1,0,none⟩ (.slice A' c.ents.length a')).setCell ⟨w.heap.size+1,1,none⟩ (.slice B' c.grps.length b')).setCell ⟨w.heap.size+1,2,none⟩ (.int .i64 c.base)).setCell ⟨w.heap.size+1,3,none⟩ (.int .i64 c.second)).setCell ⟨w.heap.size+1,4,none⟩ (.int .i64 c.third))=Wc:=⟨_,rfl⟩
 clear hcp hgr hca hz1 hz2 CH HFR hb1 hX1f
 go_upto_region 2 with (fail)
 obtain ⟨Wc,hWc⟩:=WE1
 rw [hWc] at XC BC FC CC ⊢
 clear hWc f0 f1 f2 f3 f4 g0 g1 g2 g3 g4
 have HS0:=Lib.hid (show ApS w W0 x l r n m 0 Wc A' a' B' b' c from ⟨by rw [List.drop_zero];exact HR.out,XC,FC,HCZ.out,by have:=HCN.out;omega,HCM.out,BC,CC⟩)
 clear XC BC FC CC HR HCZ
 go_wp2_with fail
 go_loopw [15] (fun u wr=>∃i:Nat,i≤l.length∧u=.int .i64 i∧∃A a B b c,ApS w W0 x l r n m i wr A a B b c) (fun u _=>l.length - (intOf u).toNat)
 case atStart=>exact ⟨0,Nat.zero_le _,rfl,_,_,_,_,_,HS0.out⟩
 case round=>
  as_aux_lemma=>
  obtain ⟨i,hi,rfl,A,a,B,b,c,hS⟩:=hrel
  have HS:=Lib.hid hS
  have hwr:=hS.b.size
  have hch:=hS.ch.size
  have s1:=hS.box
  clear hS HS0
  by_cases hlt:i < l.length
  ·obtain ⟨kb,ko,rfl,hkb,hat⟩:=(HT.out wr HS.out.b).at hlt
   obtain ⟨P,pk,Q,qk,t0,t1,t2,t3,hP,hQ⟩:=hat i hlt
   have HEQ:=Lib.hid (show r=if (stpV x c l[i]).1≠0 then ((stpV x c l[i]).1,(i:Int),col0) else applyF x (stpV x c l[i]).2 (l.drop (i+1)) (i+1) from by rw [←HS.out.eq,applyF_step hlt])
   have HTI:=Lib.hid (HTS.out _ (List.getElem_mem hlt))
   clear hat
   generalize l[i]=t at *
   have XA:Box (wr.alloc (.cells #[.slice P t.anc.length pk,.slice Q t.cds.length qk,.int .i64 t.lvl,.bool t.bef] 35)) wr.heap.size 35 [.slice P t.anc.length pk,.slice Q t.cds.length qk,.int .i64 t.lvl,.bool t.bef]:=Box.new wr 35 [.slice P t.anc.length pk,.slice Q t.cds.length qk,.int .i64 t.lvl,.bool t.bef] rfl
   have BA:Below wr.heap.size wr (wr.alloc (.cells #[.slice P t.anc.length pk,.slice Q t.cds.length qk,.int .i64 t.lvl,.bool t.bef] 35)):=(Below.refl _ _).alloc (Nat.le_refl _) _
   have WE2:∃Wa,wr.alloc (.cells #[.slice P t.anc.length pk,.slice Q t.cds.length qk,.int .i64 t.lvl,.bool t.bef] 35)=Wa:=⟨_,rfl⟩
   have hPa:=hP.below BA
   have hQa:=hQ.below BA
   obtain ⟨pn,hpn⟩:∃pn,t.anc.length=pn:=⟨_,rfl⟩
   obtain ⟨qn,hqn⟩:∃qn,t.cds.length=qn:=⟨_,rfl⟩
   have KS1:=fun W hb A a B b c hC hcz hP hQ h=>KS.out W hb A a B b c P pk Q qk t hC hcz hP hQ h
   rw [hpn] at t0 XA BA WE2 KS1 hPa hQa
   rw [hqn] at t1 XA BA WE2 KS1 hPa hQa
   have HKS:=Lib.hid KS1
   have HPN:=Lib.hid hpn
   have HQN:=Lib.hid hqn
   clear hpn hqn KS1 hP hQ
   go_upto_region 6 with (fail)
   obtain ⟨Wa,hWa⟩:=WE2
   rw [hWa] at XA BA hPa hQa ⊢
   clear hWa t0 t1 t2 t3 s1
   have a1:=HS.out.box.below BA HS.out.box.lt
   have a0:=(HS.out.ch.box HX0.out (fun (e:w.heap.size=w.heap.size+1)=>by omega)).below BA (by omega)
   have a2:=(HS.out.ch.box HX2.out (fun (e:w.heap.size+2=w.heap.size+1)=>by omega)).below BA (by omega)
   have a3:=(HS.out.ch.box HX3.out (fun (e:w.heap.size+3=w.heap.size+1)=>by omega)).below BA (by omega)
   have d0:=a1.cell (i:=0) rfl
   have d1:=a1.cell (i:=1) rfl
   have d2:=a1.cell (i:=2) rfl
   have d3:=a1.cell (i:=3) rfl
   have d4:=a1.cell (i:=4) rfl
   have e0:=a0.cell (i:=0) rfl
   have e1:=a0.cell (i:=1) rfl
   have e2:=a0.cell (i:=2) rfl
   have h0:=XA.cell (i:=0) rfl
   have h1:=XA.cell (i:=1) rfl
   have h2:=XA.cell (i:=2) rfl
   have h3:=XA.cell (i:=3) rfl
   have hba:=HS.out.b.trans (BA.mono hwr)
   have KC:=Lib.hid (HKS.out Wa hba A a B b c (HS.out.fr.below BA).here HS.out.sz (by have:=HPN.out;subst this;exact hPa) (by have:=HQN.out;subst this;exact hQa) (by have h:=HTI.out;rw [HPN.out,HQN.out] at h;exact h))
   have HA1:=Lib.hid a1
   have HA2:=Lib.hid a2
   have HA3:=Lib.hid a3
   have HBA:=Lib.hid hba
   have HCA:=Lib.hid (HS.out.ch.trans (Chg.of_below BA))
   have HST:=Lib.hid (fun h=>stp_sz (x:=x) (c:=c) (t:=t) h)
   have hws:=BA.size
   have hla:=a3.lt
   clear a1 a2 a3 a0 hba BA XA HKS hPa hQa KS HTI HTS
   generalize stpV x c t=sv at *
   obtain ⟨en,c2⟩:=sv
   go_wp2_with fail
   with_reducible refine KC.out.mono ?_
   (try dsimp only)
   rintro e W2 ⟨A2,a2,B2,b2,rfl,-,hfr,hb2⟩
   clear KC d0 d1 d2 d3 d4 e0 e1 e2 h0 h1 h2 h3
   have hb2s:=hb2.size
   have y1:=HA1.out.below hb2 HA1.out.lt
   have y2:=HA2.out.below hb2 HA2.out.lt
   have y3:=HA3.out.below hb2 HA3.out.lt
   have g0:=y1.cell (i:=0) rfl
   have g1:=y1.cell (i:=1) rfl
   have g2:=y1.cell (i:=2) rfl
   have g3:=y1.cell (i:=3) rfl
   have g4:=y1.cell (i:=4) rfl
   have f0:=y1.free 0
   have f1:=y1.free 1
   have f2:=y1.free 2
   have f3:=y1.free 3
   have f4:=y1.free 4
   have CH:Chg (fun q=>q=w.heap.size+1) W2 (((((W2.setCell ⟨w.heap.size+1,0,none⟩ (.slice A2 c2.ents.length a2)).setCell ⟨w.heap.size+1,1,none⟩ (.slice B2 c2.grps.length b2)).setCell ⟨w.heap.size+1,2,none⟩ (.int .i64 c2.base)).setCell ⟨w.heap.size+1,3,none⟩ (.int .i64 c2.second)).setCell ⟨w.heap.size+1,4,none⟩ (.int .i64 c2.third)):=Chg.of_grown (gr_set (p:=⟨w.heap.size+1,4,none⟩) (gr_set (p:=⟨w.heap.size+1,3,none⟩) (gr_set (p:=⟨w.heap.size+1,2,none⟩) (gr_set (p:=⟨w.heap.size+1,1,none⟩) (gr_set (p:=⟨w.heap.size+1,0,none⟩) (grownR_refl W2 _) _) _) _) _) _) (fun q e=>(Option.some.inj e).symm)
   have XD:Box (((((W2.setCell ⟨w.heap.size+1,0,none⟩ (.slice A2 c2.ents.length a2)).setCell ⟨w.heap.size+1,1,none⟩ (.slice B2 c2.grps.length b2)).setCell ⟨w.heap.size+1,2,none⟩ (.int .i64 c2.base)).setCell ⟨w.heap.size+1,3,none⟩ (.int .i64 c2.second)).setCell ⟨w.heap.size+1,4,none⟩ (.int .i64 c2.third)) (w.heap.size+1) 32 [.slice A2 c2.ents.length a2,.slice B2 c2.grps.length b2,.int .i64 c2.base,.int .i64 c2.second,.int .i64 c2.third]:=(((((y1.set 0 (.slice A2 c2.ents.length a2)).set 1 (.slice B2 c2.grps.length b2)).set 2 (.int .i64 c2.base)).set 3 (.int .i64 c2.second)).set 4 (.int .i64 c2.third))
   have BD:Below w.heap.size w (((((W2.setCell ⟨w.heap.size+1,0,none⟩ (.slice A2 c2.ents.length a2)).setCell ⟨w.heap.size+1,1,none⟩ (.slice B2 c2.grps.length b2)).setCell ⟨w.heap.size+1,2,none⟩ (.int .i64 c2.base)).setCell ⟨w.heap.size+1,3,none⟩ (.int .i64 c2.second)).setCell ⟨w.heap.size+1,4,none⟩ (.int .i64 c2.third)):=(HBA.out.trans (hb2.mono HBA.out.size)).trans (Chg.below CH (n:=w.heap.size) (by omega) (fun k (hk:k=w.heap.size+1)=>by omega))
   have FD:=ColFr.low (ColFr.chg (N:=Wa.heap.size) hfr CH (fun q (hq:q=w.heap.size+1)=>by omega)) (by omega:W0.heap.size≤Wa.heap.size)
   have CD:Chg (fun q=>q=w.heap.size+1) W0 (((((W2.setCell ⟨w.heap.size+1,0,none⟩ (.slice A2 c2.ents.length a2)).setCell ⟨w.heap.size+1,1,none⟩ (.slice B2 c2.grps.length b2)).setCell ⟨w.heap.size+1,2,none⟩ (.int .i64 c2.base)).setCell ⟨w.heap.size+1,3,none⟩ (.int .i64 c2.second)).setCell ⟨w.heap.size+1,4,none⟩ (.int .i64 c2.third)):=(HCA.out.trans (Chg.of_below hb2)).trans CH
   have Y2:=CH.box y2 (fun (e:w.heap.size+2=w.heap.size+1)=>by omega)
   have Y3:=CH.box y3 (fun (e:w.heap.size+3=w.heap.size+1)=>by omega)
   have WE3:∃Wd,(((((W2.setCell ⟨w.heap.size+1,0,none⟩ (.slice A2 c2.ents.length a2)).setCell ⟨w.heap.size+1,1,none⟩ (.slice B2 c2.grps.length b2)).setCell ⟨w.heap.size+1,2,none⟩ (.int .i64 c2.base)).setCell ⟨w.heap.size+1,3,none⟩ (.int .i64 c2.second)).setCell ⟨w.heap.size+1,4,none⟩ (.int .i64 c2.third))=Wd:=⟨_,rfl⟩
   have HXD:=Lib.hid XD
   have HBD:=Lib.hid BD
   have HFD:=Lib.hid FD
   have HCD:=Lib.hid CD
   have HY2:=Lib.hid Y2
   have HY3:=Lib.hid Y3
   have HWE:=Lib.hid WE3
   clear hfr hb2 CH y1 y2 y3 XD BD FD CD Y2 Y3 WE3
   by_cases q1:en=0
   ·subst q1
    have HEQ2:=Lib.hid (show applyF x c2 (l.drop (i+1)) (i+1)=r from by rw [HEQ.out,if_neg (by simp)])
    go_upto_region 7 with (fail)
    obtain ⟨Wd,hWd⟩:=HWE.out
    rw [hWd] at HXD HBD HFD HCD HY2 HY3 ⊢
    clear hWd f0 f1 f2 f3 f4 g0 g1 g2 g3 g4 HWE
    obtain ⟨z1,z2,z3⟩:=HST.out (by trivial)
    (try dsimp only at z1 z2 z3)
    have HS2:=Lib.hid (show ApS w W0 x l r n m (i+1) Wd A2 a2 B2 b2 c2 from ⟨HEQ2.out,HXD.out,HFD.out,col_sz z3 (by have:=HS.out.n;omega) (by have:=HS.out.m;have:=HCM.out;omega),by have:=HS.out.n;omega,by have:=HS.out.m;omega,HBD.out,HCD.out⟩)
    clear HXD HBD HFD HCD z1 z2 z3
    go_wp2_with fail
    go_roundw
    case rel=>exact ⟨i+1,by omega,by go_num,_,_,_,_,_,HS2.out⟩
    case measure=>(try simp [intOf]) <;> (try omega)
   ·have q2:(en != 0)=true:=by simp [q1]
    have HE:=Lib.hid (show r=(en,(i:Int),col0) from by rw [HEQ.out,if_pos q1])
    clear q1 HST HEQ
    go_upto_region 7 with (fail)
    obtain ⟨Wd,hWd⟩:=HWE.out
    rw [hWd] at HXD HBD HFD HCD HY2 HY3 ⊢
    clear hWd f0 f1 f2 f3 f4 g0 g1 g2 g3 g4 HWE
    have Y2:=HY2.out
    have Y3:=HY3.out
    have BD:=HBD.out
    clear HY2 HY3 HXD HFD HCD
    obtain ⟨u3,hu3⟩:∃u,w.heap.size+1+1+1=u:=⟨_,rfl⟩
    rw [hu3]
    obtain ⟨u2,hu2⟩:∃u,w.heap.size+1+1=u:=⟨_,rfl⟩
    rw [hu2]
    have V2:Box Wd u2 32 [.slice none 0 0,.slice none 0 0,.int .i64 0,.int .i64 0,.int .i64 0]:=by rw [←hu2];exact Y2
    have V3:Box Wd u3 47 [.int .i64 0,.int .i64 0]:=by rw [←hu3];exact Y3
    have hw2:w.heap.size≤u2:=by omega
    have hw3:w.heap.size≤u3:=by omega
    have h23:¬u2=u3:=by omega
    have h32:¬u3=u2:=by omega
    have huN:u2 < W0.heap.size∧u3 < W0.heap.size:=by have:=HX3.out.lt;omega
    clear Y2 Y3 hu2 hu3
    have f0:=V2.free 0
    have f1:=V2.free 1
    have f2:=V2.free 2
    have f3:=V2.free 3
    have f4:=V2.free 4
    have g0:=V2.cell (i:=0) rfl
    have g1:=V2.cell (i:=1) rfl
    have g2:=V2.cell (i:=2) rfl
    have g3:=V2.cell (i:=3) rfl
    have g4:=V2.cell (i:=4) rfl
    have C1:Chg (fun q=>q=u2) Wd (((((Wd.setCell ⟨u2,0,none⟩ (.slice none 0 0)).setCell ⟨u2,1,none⟩ (.slice none 0 0)).setCell ⟨u2,2,none⟩ (.int .i64 0)).setCell ⟨u2,3,none⟩ (.int .i64 0)).setCell ⟨u2,4,none⟩ (.int .i64 0)):=Chg.of_grown (gr_set (p:=⟨u2,4,none⟩) (gr_set (p:=⟨u2,3,none⟩) (gr_set (p:=⟨u2,2,none⟩) (gr_set (p:=⟨u2,1,none⟩) (gr_set (p:=⟨u2,0,none⟩) (grownR_refl Wd _) _) _) _) _) _) (fun q e=>(Option.some.inj e).symm)
    have Z2:Box (((((Wd.setCell ⟨u2,0,none⟩ (.slice none 0 0)).setCell ⟨u2,1,none⟩ (.slice none 0 0)).setCell ⟨u2,2,none⟩ (.int .i64 0)).setCell ⟨u2,3,none⟩ (.int .i64 0)).setCell ⟨u2,4,none⟩ (.int .i64 0)) u2 32 [.slice none 0 0,.slice none 0 0,.int .i64 0,.int .i64 0,.int .i64 0]:=(((((V2.set 0 (.slice none 0 0)).set 1 (.slice none 0 0)).set 2 (.int .i64 0)).set 3 (.int .i64 0)).set 4 (.int .i64 0))
    have WXE:=Lib.hid (show ∃Wx,(((((Wd.setCell ⟨u2,0,none⟩ (.slice none 0 0)).setCell ⟨u2,1,none⟩ (.slice none 0 0)).setCell ⟨u2,2,none⟩ (.int .i64 0)).setCell ⟨u2,3,none⟩ (.int .i64 0)).setCell ⟨u2,4,none⟩ (.int .i64 0))=Wx from ⟨_,rfl⟩)
    have HC1:=Lib.hid C1
    have HZ2:=Lib.hid Z2
    have HV3:=Lib.hid V3
    clear C1 Z2 V2 V3
    go_upto_region 8 with (fail)
    go_step
    go_step
    go_step
    go_step
    go_step
    go_step
    go_step
    go_step
    go_step
    go_step
    go_step
    go_step
    go_step
    go_step
    go_step
    go_step
    go_step
    obtain ⟨Wx,hWx⟩:=WXE.out
    rw [hWx] at HC1 HZ2 ⊢
    clear hWx WXE f0 g0 f1 g1 f2 g2 f3 g3 f4 g4
    have Y3:=HC1.out.box HV3.out (fun (e:u3=u2)=>h32 e)
    have p0:=Y3.free 0
    have p1:=Y3.free 1
    have q0:=Y3.cell (i:=0) rfl
    have q1:=Y3.cell (i:=1) rfl
    have l2:=HZ2.out.lt
    have l3:=Y3.lt
    have C2:Chg (fun q=>q=u3) Wx ((Wx.setCell ⟨u3,0,none⟩ (.int .i64 en)).setCell ⟨u3,1,none⟩ (.int .i64 (i:Int))):=Chg.of_grown (gr_set (p:=⟨u3,1,none⟩) (gr_set (p:=⟨u3,0,none⟩) (grownR_refl Wx _) _) _) (fun q e=>(Option.some.inj e).symm)
    have Z2:=C2.box HZ2.out (fun (e:u2=u3)=>h23 e)
    have Z3:Box ((Wx.setCell ⟨u3,0,none⟩ (.int .i64 en)).setCell ⟨u3,1,none⟩ (.int .i64 (i:Int))) u3 47 [.int .i64 en,.int .i64 (i:Int)]:=((Y3.set 0 (.int .i64 en)).set 1 (.int .i64 (i:Int)))
    have CA:Chg (fun q=>q=u2∨q=u3) Wd ((Wx.setCell ⟨u3,0,none⟩ (.int .i64 en)).setCell ⟨u3,1,none⟩ (.int .i64 (i:Int))):=(HC1.out.mono (fun _ _ e=>.inl e)).trans (C2.mono (fun _ _ e=>.inr e))
    have BF:Below w.heap.size w ((Wx.setCell ⟨u3,0,none⟩ (.int .i64 en)).setCell ⟨u3,1,none⟩ (.int .i64 (i:Int))):=BD.trans (Chg.below CA (n:=w.heap.size) BD.size (fun k (hk:k=u2∨k=u3)=>by omega))
    have WFE:=Lib.hid (show ∃Wf,((Wx.setCell ⟨u3,0,none⟩ (.int .i64 en)).setCell ⟨u3,1,none⟩ (.int .i64 (i:Int)))=Wf from ⟨_,rfl⟩)
    have HY2:=Lib.hid Z2
    have HY3:=Lib.hid Z3
    have HBF:=Lib.hid BF
    clear C2 CA Z2 Z3 BF BD Y3 HC1 HZ2 HV3 huN
    go_wp2_with fail
    obtain ⟨Wf,hWf⟩:=WFE.out
    try rw [hWf] at HY2 HY3 HBF ⊢
    clear hWf
    have z0:=HY2.out.cell (i:=0) rfl
    have z1:=HY2.out.cell (i:=1) rfl
    have z2:=HY2.out.cell (i:=2) rfl
    have z3:=HY2.out.cell (i:=3) rfl
    have z4:=HY2.out.cell (i:=4) rfl
    have y0:=HY3.out.cell (i:=0) rfl
    have y1:=HY3.out.cell (i:=1) rfl
    (try simp only [Exit.inBlock,Exit.then])
    refine bodyPost_ret (results_cf rfl _ _ (b:=u2) (d:=u3) rfl rfl z0 z1 z2 z3 z4 y0 y1) rfl ?_
    rw [HE.out]
    exact ⟨none,0,none,0,rfl,col0_at _,HBF.out⟩
  ·obtain rfl:i=l.length:=by omega
   have HE:=Lib.hid (show r=(0,0,c) from by rw [←HS.out.eq,applyF_end])
   have Y2:=HS.out.ch.box HX2.out (fun (e:w.heap.size+2=w.heap.size+1)=>by omega)
   have Y3:=HS.out.ch.box HX3.out (fun (e:w.heap.size+3=w.heap.size+1)=>by omega)
   have FD:=HS.out.fr
   have BD:=HS.out.b
   have d0:=s1.cell (i:=0) rfl
   have d1:=s1.cell (i:=1) rfl
   have d2:=s1.cell (i:=2) rfl
   have d3:=s1.cell (i:=3) rfl
   have d4:=s1.cell (i:=4) rfl
   clear s1 HT HTS KS
   obtain ⟨u3,hu3⟩:∃u,w.heap.size+1+1+1=u:=⟨_,rfl⟩
   rw [hu3]
   obtain ⟨u2,hu2⟩:∃u,w.heap.size+1+1=u:=⟨_,rfl⟩
   rw [hu2]
   have V2:Box wr u2 32 [.slice none 0 0,.slice none 0 0,.int .i64 0,.int .i64 0,.int .i64 0]:=by rw [←hu2];exact Y2
   have V3:Box wr u3 47 [.int .i64 0,.int .i64 0]:=by rw [←hu3];exact Y3
   have hw2:w.heap.size≤u2:=by omega
   have hw3:w.heap.size≤u3:=by omega
   have h23:¬u2=u3:=by omega
   have h32:¬u3=u2:=by omega
   have huN:u2 < W0.heap.size∧u3 < W0.heap.size:=by have:=HX3.out.lt;omega
   clear Y2 Y3 hu2 hu3
   have f0:=V2.free 0
   have f1:=V2.free 1
   have f2:=V2.free 2
   have f3:=V2.free 3
   have f4:=V2.free 4
   have g0:=V2.cell (i:=0) rfl
   have g1:=V2.cell (i:=1) rfl
   have g2:=V2.cell (i:=2) rfl
   have g3:=V2.cell (i:=3) rfl
   have g4:=V2.cell (i:=4) rfl
   have C1:Chg (fun q=>q=u2) wr (((((wr.setCell ⟨u2,0,none⟩ (.slice A c.ents.length a)).setCell ⟨u2,1,none⟩ (.slice B c.grps.length b)).setCell ⟨u2,2,none⟩ (.int .i64 c.base)).setCell ⟨u2,3,none⟩ (.int .i64 c.second)).setCell ⟨u2,4,none⟩ (.int .i64 c.third)):=Chg.of_grown (gr_set (p:=⟨u2,4,none⟩) (gr_set (p:=⟨u2,3,none⟩) (gr_set (p:=⟨u2,2,none⟩) (gr_set (p:=⟨u2,1,none⟩) (gr_set (p:=⟨u2,0,none⟩) (grownR_refl wr _) _) _) _) _) _) (fun q e=>(Option.some.inj e).symm)
   have Z2:Box (((((wr.setCell ⟨u2,0,none⟩ (.slice A c.ents.length a)).setCell ⟨u2,1,none⟩ (.slice B c.grps.length b)).setCell ⟨u2,2,none⟩ (.int .i64 c.base)).setCell ⟨u2,3,none⟩ (.int .i64 c.second)).setCell ⟨u2,4,none⟩ (.int .i64 c.third)) u2 32 [.slice A c.ents.length a,.slice B c.grps.length b,.int .i64 c.base,.int .i64 c.second,.int .i64 c.third]:=(((((V2.set 0 (.slice A c.ents.length a)).set 1 (.slice B c.grps.length b)).set 2 (.int .i64 c.base)).set 3 (.int .i64 c.second)).set 4 (.int .i64 c.third))
   have WXE:=Lib.hid (show ∃Wx,(((((wr.setCell ⟨u2,0,none⟩ (.slice A c.ents.length a)).setCell ⟨u2,1,none⟩ (.slice B c.grps.length b)).setCell ⟨u2,2,none⟩ (.int .i64 c.base)).setCell ⟨u2,3,none⟩ (.int .i64 c.second)).setCell ⟨u2,4,none⟩ (.int .i64 c.third))=Wx from ⟨_,rfl⟩)
   have HC1:=Lib.hid C1
   have HZ2:=Lib.hid Z2
   have HV3:=Lib.hid V3
   clear C1 Z2 V2 V3
   go_upto_region 10 with (fail)
   go_step
   go_step
   go_step
   go_step
   go_step
   go_step
   go_step
   go_step
   go_step
   go_step
   go_step
   obtain ⟨Wx,hWx⟩:=WXE.out
   rw [hWx] at HC1 HZ2 ⊢
   clear hWx WXE f0 g0 f1 g1 f2 g2 f3 g3 f4 g4
   have Y3:=HC1.out.box HV3.out (fun (e:u3=u2)=>h32 e)
   have p0:=Y3.free 0
   have p1:=Y3.free 1
   have q0:=Y3.cell (i:=0) rfl
   have q1:=Y3.cell (i:=1) rfl
   have l2:=HZ2.out.lt
   have l3:=Y3.lt
   have C2:Chg (fun q=>q=u3) Wx ((Wx.setCell ⟨u3,0,none⟩ (.int .i64 0)).setCell ⟨u3,1,none⟩ (.int .i64 0)):=Chg.of_grown (gr_set (p:=⟨u3,1,none⟩) (gr_set (p:=⟨u3,0,none⟩) (grownR_refl Wx _) _) _) (fun q e=>(Option.some.inj e).symm)
   have Z2:=C2.box HZ2.out (fun (e:u2=u3)=>h23 e)
   have Z3:Box ((Wx.setCell ⟨u3,0,none⟩ (.int .i64 0)).setCell ⟨u3,1,none⟩ (.int .i64 0)) u3 47 [.int .i64 0,.int .i64 0]:=((Y3.set 0 (.int .i64 0)).set 1 (.int .i64 0))
   have CA:Chg (fun q=>q=u2∨q=u3) wr ((Wx.setCell ⟨u3,0,none⟩ (.int .i64 0)).setCell ⟨u3,1,none⟩ (.int .i64 0)):=(HC1.out.mono (fun _ _ e=>.inl e)).trans (C2.mono (fun _ _ e=>.inr e))
   have BF:Below w.heap.size w ((Wx.setCell ⟨u3,0,none⟩ (.int .i64 0)).setCell ⟨u3,1,none⟩ (.int .i64 0)):=BD.trans (Chg.below CA (n:=w.heap.size) BD.size (fun k (hk:k=u2∨k=u3)=>by omega))
   have FF:=(FD.chg CA (fun q (hq:q=u2∨q=u3)=>by omega)).here
   have WFE:=Lib.hid (show ∃Wf,((Wx.setCell ⟨u3,0,none⟩ (.int .i64 0)).setCell ⟨u3,1,none⟩ (.int .i64 0))=Wf from ⟨_,rfl⟩)
   have HY2:=Lib.hid Z2
   have HY3:=Lib.hid Z3
   have HBF:=Lib.hid BF
   have HFF:=Lib.hid FF
   clear FF FD
   clear C2 CA Z2 Z3 BF BD Y3 HC1 HZ2 HV3 huN
   go_wp2_with fail
   obtain ⟨Wf,hWf⟩:=WFE.out
   try rw [hWf] at HY2 HY3 HBF HFF ⊢
   clear hWf
   have z0:=HY2.out.cell (i:=0) rfl
   have z1:=HY2.out.cell (i:=1) rfl
   have z2:=HY2.out.cell (i:=2) rfl
   have z3:=HY2.out.cell (i:=3) rfl
   have z4:=HY2.out.cell (i:=4) rfl
   have y0:=HY3.out.cell (i:=0) rfl
   have y1:=HY3.out.cell (i:=1) rfl
   (try simp only [Exit.inBlock,Exit.then])
   refine bodyPost_ret (results_cf rfl _ _ (b:=u2) (d:=u3) rfl rfl z0 z1 z2 z3 z4 y0 y1) rfl ?_
   rw [HE.out]
   exact ⟨_,_,_,_,rfl,HFF.out,HBF.out⟩
end Go.Proofs.YtkhmjidaeliccaaGreatDoor
