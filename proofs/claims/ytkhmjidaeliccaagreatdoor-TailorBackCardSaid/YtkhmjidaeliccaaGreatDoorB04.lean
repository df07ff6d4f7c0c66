/- Texts that are merged into one file: PaLit, PaChain, OSpans. -/
import Derived.Test.YtkhmjidaeliccaaGreatDoorB01
import Derived.Test.YtkhmjidaeliccaaGreatDoorB03
import Derived.Deep.Cut
import Derived.Deep.DeepCutAuto
set_option maxRecDepth 100000
set_option maxHeartbeats 51200000
namespace Go.Proofs.YtkhmjidaeliccaaGreatDoor
open Go.RowKit Tl Pa
theorem litN_more {s:ByteArray}:∀(n m:Nat) (a:List Int) (i:Nat),s.size - i≤n→s.size - i≤m→litN s n a i=litN s m a i
 | 0,0,a,i,_,_=>rfl
 | 0,m+1,a,i,h,_=>by
  have e:litN s (m+1) a i=.ok (a,i):=by
   unfold litN
   rw [if_neg (by rw [bt_end (by omega)];decide)]
  rw [e];rfl
 | n+1,0,a,i,_,h=>by
  have e:litN s (n+1) a i=.ok (a,i):=by
   unfold litN
   rw [if_neg (by rw [bt_end (by omega)];decide)]
  rw [e];rfl
 | n+1,m+1,a,i,h1,h2=>by
  unfold litN
  by_cases h0:bt s i=32
  ·rw [if_pos h0,if_pos h0]
   cases hc:Pa.code s (i+1) with
   | error e=>rfl
   | ok q=>
    obtain ⟨c,j⟩:=q
    have:=code_ok hc
    exact litN_more n m _ j (by omega) (by omega)
  ·rw [if_neg h0,if_neg h0]
def litR (s:ByteArray) (a:List Int) (i:Nat):Rd (List Int):=litN s (s.size - i) a i
theorem litR_stop {s:ByteArray} {a:List Int} {i:Nat} (h:¬bt s i=32):litR s a i=.ok (a,i):=by
 unfold litR
 cases s.size - i with
 | zero=>rfl
 | succ n=>unfold litN;rw [if_neg h]
theorem litR_step {s:ByteArray} {a:List Int} {i:Nat} (h:bt s i=32):litR s a i=match Pa.code s (i+1) with | .error e=>.error e | .ok (c,j)=>litR s (a++[c]) j:=by
 have hin:=bt_in (s:=s) (i:=i) (by omega)
 unfold litR
 rw [show s.size - i=(s.size - (i+1))+1 by omega]
 conv=>lhs;unfold litN
 rw [if_pos h]
 cases hc:Pa.code s (i+1) with
 | error e=>rfl
 | ok q=>
  obtain ⟨c,j⟩:=q
  have:=code_ok hc
  exact litN_more _ _ _ j (by omega) (Nat.le_refl _)
theorem lit_eq (s:ByteArray) (i:Nat):lit s i=match wrd s [40] i with
  | .error e=>.error e
  | .ok (_,i1)=>match Pa.code s i1 with
   | .error e=>.error e
   | .ok (c,i2)=>match litR s [c] i2 with
    | .error e=>.error e
    | .ok (l,i3)=>match wrd s [41] i3 with
     | .error e=>.error e
     | .ok (_,i4)=>.ok (l,skp s i4):=by
 unfold lit litR
 cases wrd s [40] i with
 | error e=>rfl
 | ok q=>
  cases Pa.code s q.2 with
  | error e=>rfl
  | ok q2=>
   cases litN s (s.size - q2.2) [q2.1] q2.2 with
   | error e=>rfl
   | ok q3=>
    cases wrd s [41] q3.2 <;> rfl
def ownV (w:World) (l:List Int) (v:Value) (w':World):Prop:=∃A c,v=.slice A l.length c∧w'.ownsRow w.heap.size 3 1 (.slice A l.length c) l.length (l.map (Value.int .i64))
section
variable {P i j n m:Nat} {s:ByteArray} {w w' w'':World}
theorem PsTo.low (h:PsTo P s w j w') (hP:P < w.heap.size) (hb:Below w.heap.size w' w''):PsTo P s w j w'':=⟨h.box.below hb hP,⟨hb.os.trans h.gr.os,hb.tape.trans h.gr.tape,hb.output.trans h.gr.output,Nat.le_trans h.gr.size hb.size,fun k hk hne=>(hb.block k hk).trans (h.gr.block k hk hne)⟩⟩
theorem own_ps {base size:Nat} {e:TypeId} {v:Value} {xs:List Value} (h:w.ownsRow base e size v n xs) (hg:w.grownBy w' (some P)) (hP:P < base):w'.ownsRow base e size v n xs:=by
 refine h.kept hg ?_
 cases hb:v.ownBlock with
 | none=>exact .inl rfl
 | some q=>
  right
  intro e
  have:=(h.lt q hb).1
  injection e with e
  omega
end
theorem plit_any (P:Nat) (s:ByteArray) (i:Nat) (w:World) (hP:PsB w P s i) (hi:i≤s.size) (hs:s.size≤65536) :
  Calls Tryz.prog 115 #[.pointer (some ⟨P,0,none⟩)] w (RdR P s (ownV w) (lit s i) w):=by
 have HP:=Lib.hid (hP.here)
 have hPl:P < w.heap.size:=hP.lt
 have KN:=Lib.hid (fun j (W:World) (h:PsTo P s w j W) (hj:j≤s.size)=>next_any P s j W h.box hj)
 have KE:=Lib.hid (expect_any P s ⟨#[40]⟩ [40] i w hP hi (by omega) (wrd1 40 (by decide) _ rfl (by decide)) (by decide))
 have KG:=Lib.hid (fun j (W:World) (h:PsTo P s w j W) (hj:j≤s.size)=>expect_any P s ⟨#[41]⟩ [41] j W h.box hj (by omega) (wrd1 41 (by decide) _ rfl (by decide)) (by decide))
 have KC:=Lib.hid (fun j (W:World) (h:PsTo P s w j W) (hj:j≤s.size)=>pcode_any P s j W h.box hj (by omega))
 have KB:=Lib.hid (fun j (W:World) (h:PsTo P s w j W) (hj:j≤s.size)=>blanks_any P s j W h.box hj (by omega))
 unfold RdR at KE KG KC
 obtain ⟨r,hr⟩:∃r,lit s i=r:=⟨_,rfl⟩
 have HR0:=Lib.hid (hr.symm.trans (lit_eq s i))
 rw [hr]
 clear hP hr
 cases h1:wrd s [40] i with
 | error f=>
  rw [h1] at HR0 KE
  have HF:=Lib.hid (show r=.error f from HR0.out)
  clear h1 HR0
  go_enter Tryz.func115,Tryz.ntmps115
  go_wp2_with fail
  with_reducible refine KE.out.mono ?_
  rintro e W1 ⟨⟨u,pv,rfl⟩,hp1⟩
  have HW:=Lib.hid hp1
  clear hp1
  go_wp2_with fail
  rw [HF.out]
  exact ⟨rfl,⟨_,_,rfl⟩,HW.out⟩
 | ok q1=>
 obtain ⟨u1,i1⟩:=q1
 have hi1:=(wrd_ok (by simp) h1).2 (by simp)
 rw [h1] at HR0 KE
 clear h1
 dsimp only at HR0 KE
 cases h2:Pa.code s i1 with
 | error f=>
  have KC1:=Lib.hid (fun (W:World) (h:PsTo P s w i1 W)=>KC.out i1 W h hi1)
  rw [h2] at HR0 KC1
  have HF:=Lib.hid (show r=.error f from HR0.out)
  clear h2 HR0
  go_enter Tryz.func115,Tryz.ntmps115
  go_wp2_with fail
  with_reducible refine KE.out.mono ?_
  rintro e W1 ⟨⟨v,rfl,rfl⟩,hp1⟩
  have HW:=Lib.hid hp1
  have KC2:=Lib.hid (KC1.out W1 hp1)
  clear hp1 KC1 KC KE
  go_wp2_with fail
  with_reducible refine KC2.out.mono ?_
  rintro e W2 ⟨⟨u,pv,rfl⟩,hp2⟩
  have HW2:=Lib.hid (HW.out.trans hp2)
  clear hp2
  go_wp2_with fail
  rw [HF.out]
  exact ⟨rfl,⟨_,_,rfl⟩,HW2.out⟩
 | ok q2=>
 obtain ⟨z0,i2⟩:=q2
 have hi2:=code_ok h2
 have KC1:=Lib.hid (fun (W:World) (h:PsTo P s w i1 W)=>KC.out i1 W h hi1)
 rw [h2] at HR0 KC1
 clear h2
 dsimp only at HR0 KC1
 go_enter Tryz.func115,Tryz.ntmps115
 go_wp2_with fail
 with_reducible refine KE.out.mono ?_
 rintro e W1 ⟨⟨v,rfl,rfl⟩,hp1⟩
 have HW:=Lib.hid hp1
 have KC2:=Lib.hid (KC1.out W1 hp1)
 clear hp1 KC1 KE
 go_wp2_with fail
 with_reducible refine KC2.out.mono ?_
 rintro e W2 ⟨⟨v,rfl,rfl⟩,hp2⟩
 have HW2:=Lib.hid (HW.out.trans hp2)
 have hz2:=HW2.out.gr.size
 clear hp2 KC2
 go_wp2_with fail
 go_loopw [3] (fun u wr=>∃(l:List Int) (A:Option Addr) (c p:Nat),l.length≤p∧p≤s.size∧u=.slice A l.length c∧Hid (litR s l p=litR s [z0] i2)∧wr.ownsRow w.heap.size 3 1 (.slice A l.length c) l.length (l.map (Value.int .i64))∧PsTo P s w p wr) (fun _ wr=>s.size - psAt P wr)
 case atStart=>
  refine ⟨[z0],_,_,i2,by simp;omega,hi2.2,rfl,Lib.hid rfl,own_new [.int .i64 z0] 3 1 1 w.heap.size rfl rfl hz2 (by decide),HW2.out.below ((Below.refl _ _).alloc (Nat.le_refl _) _)⟩
 case round=>
  obtain ⟨l,A,c,p,hlp,hp,rfl,hb,ho,hps⟩:=hrel
  have HR:=Lib.hid hps
  have HO:=Lib.hid ho
  have KN1:=Lib.hid (KN.out p _ hps hp)
  clear hps ho
  by_cases h32:bt s p=32
  ·have d1:((bt s p:Int)==32)=true:=by simp;omega
   have hin:=bt_in (s:=s) (i:=p) (by omega)
   have HST:=Lib.hid (hb.out.symm.trans (litR_step h32))
   have KC1:=Lib.hid (fun (W:World) (h:PsTo P s w (p+1) W)=>KC.out (p+1) W h hin)
   clear h32 hb
   generalize bt s p=b at *
   cases h3:Pa.code s (p+1) with
   | error f=>
    rw [h3] at HST KC1
    have HF:=Lib.hid (show r=.error f from by rw [HR0.out,HST.out])
    clear h3 HST HR0
    go_wp2_with fail
    with_reducible refine KN1.out.mono ?_
    rintro e W3 ⟨rfl,hp3⟩
    have HW3:=Lib.hid (HR.out.trans hp3)
    have c1:=HW3.out.c1
    have f1:=HW3.out.f1
    have HW4:=Lib.hid (show PsTo P s w (p+1) (W3.setCell ⟨P,1,none⟩ (.int .i64 ((p:Int)+1))) from HW3.out.go (p+1))
    have KC3:=Lib.hid (KC1.out _ HW4.out)
    clear hp3 KN1 KC1
    go_wp2_with fail
    with_reducible refine KC3.out.mono ?_
    rintro e W5 ⟨⟨u,pv,rfl⟩,hp5⟩
    have HW5:=Lib.hid (HW4.out.trans hp5)
    clear hp5
    go_wp2_with fail
    rw [HF.out]
    exact ⟨rfl,⟨_,_,rfl⟩,HW5.out⟩
   | ok q3=>
    obtain ⟨z,j⟩:=q3
    have hj:=code_ok h3
    rw [h3] at HST KC1
    have HN:=Lib.hid (show litR s (l++[z]) j=litR s [z0] i2 from HST.out.symm)
    clear h3 HST
    dsimp only at KC1
    go_wp2_with fail
    with_reducible refine KN1.out.mono ?_
    rintro e W3 ⟨rfl,hp3⟩
    have HW3:=Lib.hid (HR.out.trans hp3)
    have c1:=HW3.out.c1
    have f1:=HW3.out.f1
    have HW4:=Lib.hid (show PsTo P s w (p+1) (W3.setCell ⟨P,1,none⟩ (.int .i64 ((p:Int)+1))) from HW3.out.go (p+1))
    have KC3:=Lib.hid (KC1.out _ HW4.out)
    have HO3:=Lib.hid (own_ps HO.out hp3.gr hPl)
    have HO4:=Lib.hid (own_ps HO3.out (grown_set W3 ⟨P,1,none⟩ (.int .i64 ((p:Int)+1))) hPl)
    clear hp3 KN1 KC1
    go_wp2_with fail
    with_reducible refine KC3.out.mono ?_
    rintro e W5 ⟨⟨v,rfl,rfl⟩,hp5⟩
    have HW5:=Lib.hid (HW4.out.trans hp5)
    have hz5:=HW5.out.gr.size
    have HO5:=Lib.hid (own_ps HO4.out hp5.gr hPl)
    clear hp5 HO HO3 HO4 KC3 c1 f1
    go_wp2_with (at_builtin;refine wpList_app _ _ 33 3 (.int .i64 0) 1 8 rfl rfl Tryz.underlying33 info_int rfl (by decide) (by decide) rfl (HO5.out.alloc _) rfl (Ints_new W5 [z] _ rfl) (by simp) (oneCell_ints _) (by omega) (by simp;omega) ?_;intro K3 k3 w3 hown3 hc3 hb3 hg3 hB3)
    have HO6:=Lib.hid hown3
    have HW6:=Lib.hid ((HW5.out.below ((Below.refl _ _).alloc (Nat.le_refl _) _)).low hPl hb3)
    clear hown3 hc3 hb3 hg3 hB3
    go_wp2_with fail
    go_roundw
    case rel=>exact ⟨l++[z],K3,k3,j,by simp;omega,hj.2,by rw [List.length_append];rfl,HN,by rw [List.length_append,List.map_append];exact HO6.out,HW6.out⟩
    case measure=>
     rw [HW6.out.at,HR.out.at]
     omega
  ·have d1:((bt s p:Int)==32)=false:=by simp;omega
   have HQ:=Lib.hid (show litR s [z0] i2=.ok (l,p) from by rw [←hb.out,litR_stop h32])
   have KG1:=Lib.hid (fun (W:World) (h:PsTo P s w p W)=>KG.out p W h hp)
   clear h32 hb
   generalize bt s p=b at *
   cases h4:wrd s [41] p with
   | error f=>
    have HF:=Lib.hid (show r=.error f from by rw [HR0.out,HQ.out];dsimp only;rw [h4])
    rw [h4] at KG1
    clear h4 HQ HR0
    go_wp2_with fail
    with_reducible refine KN1.out.mono ?_
    rintro e W3 ⟨rfl,hp3⟩
    have HW3:=Lib.hid (HR.out.trans hp3)
    have KG2:=Lib.hid (KG1.out W3 HW3.out)
    clear hp3 KN1 KG1
    go_wp2_with fail
    with_reducible refine KG2.out.mono ?_
    rintro e W4 ⟨⟨u,pv,rfl⟩,hp4⟩
    have HW4:=Lib.hid (HW3.out.trans hp4)
    clear hp4
    go_wp2_with fail
    rw [HF.out]
    exact ⟨rfl,⟨_,_,rfl⟩,HW4.out⟩
   | ok q4=>
    obtain ⟨u4,i4⟩:=q4
    have hi4:=(wrd_ok (by simp) h4).2 (by simp)
    have HF:=Lib.hid (show r=.ok (l,skp s i4) from by rw [HR0.out,HQ.out];dsimp only;rw [h4])
    rw [h4] at KG1
    dsimp only at KG1
    clear h4 HQ HR0
    go_wp2_with fail
    with_reducible refine KN1.out.mono ?_
    rintro e W3 ⟨rfl,hp3⟩
    have HW3:=Lib.hid (HR.out.trans hp3)
    have KG2:=Lib.hid (KG1.out W3 HW3.out)
    have HO3:=Lib.hid (own_ps HO.out hp3.gr hPl)
    clear hp3 KN1 KG1
    go_wp2_with fail
    with_reducible refine KG2.out.mono ?_
    rintro e W4 ⟨⟨v,rfl,rfl⟩,hp4⟩
    have HW4:=Lib.hid (HW3.out.trans hp4)
    have HO4:=Lib.hid (own_ps HO3.out hp4.gr hPl)
    have KB2:=Lib.hid (KB.out i4 W4 HW4.out hi4)
    clear hp4 KG2
    go_wp2_with fail
    with_reducible refine KB2.out.mono ?_
    rintro e W5 ⟨rfl,hp5⟩
    have HW5:=Lib.hid (HW4.out.trans hp5)
    have HO5:=Lib.hid (own_ps HO4.out hp5.gr hPl)
    clear hp5 KB2
    go_wp2_with fail
    go_ret
    rw [HF.out]
    exact ⟨⟨_,rfl,_,_,rfl,HO5.out⟩,HW5.out⟩
end Go.Proofs.YtkhmjidaeliccaaGreatDoor
namespace Go.Proofs.YtkhmjidaeliccaaGreatDoor
open Go.RowKit Tl Pa
theorem info_tlr:(Tryz.prog.info? 35).map (fun i=>(i.zero,i.size,i.bytes))=some (some (.agg #[.slice none 0 0,.slice none 0 0,.int .i64 0,.bool false]),4,64):=by kernel_rfl
def Apt (B:Nat) (r:Option Nat) (A:Option Addr) (l:List Int):Prop:=l≠[]→∀a,A=some a→B≤a.block∧r≠some a.block
theorem Sl.kept {w w':World} {A:Option Addr} {cs:List Value} {r:Option Nat} (h:Sl w A cs) (hg:w.grownBy w' r) (hne:cs≠[]→∀a,A=some a→r≠some a.block):Sl w' A cs:=fun hc=>by
 obtain ⟨b,o,rfl,hcell⟩:=h hc
 refine ⟨b,o,rfl,fun j u hu=>?_⟩
 have h1:=hcell j u hu
 exact (World.cell?_of_block (hg.block b (World.block_lt_of_cell? w _ h1) (fun e=>hne hc ⟨b,o,none⟩ rfl e.symm))).trans h1
structure TlrAt (w:World) (P:Nat) (r:Option Nat) (v:Option Addr × Nat × Option Addr × Nat) (t:Tlr):Prop where
 a:Ints w v.1 t.anc
 pa:Apt P r v.1 t.anc
 b:Ints w v.2.2.1 t.cds
 pb:Apt P r v.2.2.1 t.cds
def tlrC (v:Option Addr × Nat × Option Addr × Nat) (t:Tlr):List Value:=[.slice v.1 t.anc.length v.2.1,.slice v.2.2.1 t.cds.length v.2.2.2,.int .i64 t.lvl,.bool t.bef]
def tlrsC:List (Option Addr × Nat × Option Addr × Nat)→List Tlr→List Value
 | v::vs,t::l=>tlrC v t++tlrsC vs l
 | _,_=>[]
theorem tlrsC_snoc (v:Option Addr × Nat × Option Addr × Nat) (t:Tlr):∀(vs:List (Option Addr × Nat × Option Addr × Nat)) (l:List Tlr),vs.length=l.length→tlrsC (vs++[v]) (l++[t])=tlrsC vs l++tlrC v t
 | [],[],_=>by simp [tlrsC]
 | a::vs,b::l,h=>by
  show tlrC a b++tlrsC (vs++[v]) (l++[t])=(tlrC a b++tlrsC vs l)++tlrC v t
  rw [tlrsC_snoc v t vs l (by simpa using h),List.append_assoc]
 | [],_::_,h=>by simp at h
 | _::_,[],h=>by simp at h
structure StepsAt (w:World) (P base:Nat) (K:Option Addr) (c:Nat) (l:List Tlr):Prop where
 ex:∃vs:List (Option Addr × Nat × Option Addr × Nat),vs.length=l.length∧w.ownsRow base 35 4 (.slice K l.length c) l.length (tlrsC vs l)∧∀i,(hi:i < l.length)→(hv:i < vs.length)→TlrAt w base (Value.ownBlock (.slice K l.length c)) vs[i] l[i]
section
variable {w w':World} {P base c c':Nat} {K K':Option Addr} {l:List Tlr} {r:Option Nat}
theorem TlrAt.kept {v:Option Addr × Nat × Option Addr × Nat} {t:Tlr} (h:TlrAt w P r v t) {q:Option Nat} (hg:w.grownBy w' q) (hq:(∃p,q=some p∧p < P)∨q=r∨q=none):TlrAt w' P r v t:=by
 have key:∀(A:Option Addr) (d:List Int),Ints w A d→Apt P r A d→Ints w' A d:=by
  intro A d h1 h2
  refine Sl.kept h1 hg (fun hc a ha=>?_)
  have h3:=h2 (fun e=>hc (by rw [e];rfl)) a ha
  rcases hq with ⟨p,rfl,hp⟩ | rfl | rfl
  ·intro e;injection e with e;have:=h3.1;omega
  ·exact h3.2
  ·intro e;cases e
 exact ⟨key _ _ h.a h.pa,h.pa,key _ _ h.b h.pb,h.pb⟩
theorem StepsAt.ps (h:StepsAt w P base K c l) (hg:w.grownBy w' (some P)) (hP:P < base):StepsAt w' P base K c l:=by
 obtain ⟨vs,h1,h2,h3⟩:=h.ex
 exact ⟨vs,h1,own_ps h2 hg hP,fun i hi hv=>(h3 i hi hv).kept hg (.inl ⟨P,rfl,hP⟩)⟩
theorem StepsAt.below (h:StepsAt w P base K c l) (hb:Below w.heap.size w w'):StepsAt w' P base K c l:=by
 obtain ⟨vs,h1,h2,h3⟩:=h.ex
 exact ⟨vs,h1,own_keep h2 hb,fun i hi hv=>(h3 i hi hv).kept (q:=none) ⟨hb.os,hb.tape,hb.output,hb.size,fun k hk _=>hb.block k hk⟩ (.inr (.inr rfl))⟩
theorem StepsAt.nil (w:World) (P base:Nat):StepsAt w P base none 0 []:=⟨[],rfl,World.ownsRow_nil _ _ _ _,fun i hi _=>absurd hi (by simp)⟩
theorem StepsAt.lt (h:StepsAt w P base K c l):∀q,Value.ownBlock (.slice K l.length c)=some q→base≤q∧q < w.heap.size:=by
 obtain ⟨vs,_,h2,_⟩:=h.ex
 exact h2.lt
theorem StepsAt.app {vs:List (Option Addr × Nat × Option Addr × Nat)} (h1:vs.length=l.length) (h3:∀i,(hi:i < l.length)→(hv:i < vs.length)→TlrAt w base (Value.ownBlock (.slice K l.length c)) vs[i] l[i]) {o:Obj} {w3:World} {K3:Option Addr} {k3:Nat} {v:Option Addr × Nat × Option Addr × Nat} {t:Tlr} (ho:w3.ownsRow base 35 4 (.slice K3 (l.length+1) k3) (l.length+1) (tlrsC vs l++tlrC v t)) (hg:(w.alloc o).grownBy w3 (Value.ownBlock (.slice K l.length c))) (hB:K3=K∨K3=some ⟨(w.alloc o).heap.size,0,none⟩) (ht:TlrAt w base (Value.ownBlock (.slice K l.length c)) v t):StepsAt w3 P base K3 k3 (l++[t]):=by
 have hal:Below w.heap.size w (w.alloc o):=(Below.refl _ _).alloc (Nat.le_refl _) _
 have hz:(w.alloc o).heap.size=w.heap.size+1:=by simp
 have key:∀(A:Option Addr) (d:List Int),Ints w A d→Apt base (Value.ownBlock (.slice K l.length c)) A d→Ints w3 A d∧Apt base (Value.ownBlock (.slice K3 (l++[t]).length k3)) A d:=by
  intro A d g1 g2
  refine ⟨Sl.kept (Sl.below g1 hal) hg (fun hc a ha=>(g2 (fun e=>hc (by rw [e];rfl)) a ha).2),fun hd a ha=>?_⟩
  obtain ⟨q1,q2⟩:=g2 hd a ha
  refine ⟨q1,?_⟩
  rcases hB with rfl | rfl
  ·intro e
   refine q2 ?_
   cases K3 with
   | none=>cases e
   | some b=>exact e
  ·intro e
   have e':some (w.alloc o).heap.size=some a.block:=e
   injection e' with e'
   have hlt:a.block < w.heap.size:=by
    obtain ⟨b,o',hA,hcell⟩:=g1 (fun e=>hd (by simpa using e))
    rw [ha] at hA
    injection hA with hA
    subst hA
    cases d with
    | nil=>exact absurd rfl hd
    | cons z d=>exact World.block_lt_of_cell? w _ (hcell 0 _ rfl)
   omega
 have keyT:∀(v:Option Addr × Nat × Option Addr × Nat) (s:Tlr),TlrAt w base (Value.ownBlock (.slice K l.length c)) v s→TlrAt w3 base (Value.ownBlock (.slice K3 (l++[t]).length k3)) v s:=fun v s g=>⟨(key _ _ g.a g.pa).1,(key _ _ g.a g.pa).2,(key _ _ g.b g.pb).1,(key _ _ g.b g.pb).2⟩
 refine ⟨vs++[v],by simp [h1],?_,fun i hi hv=>?_⟩
 ·rw [tlrsC_snoc v t vs l h1,List.length_append]
  exact ho
 ·by_cases hil:i < l.length
  ·rw [List.getElem_append_left hil,List.getElem_append_left (by omega)]
   exact keyT _ _ (h3 i hil (by omega))
  ·obtain rfl:i=l.length:=by simp at hi;omega
   rw [List.getElem_append_right (by omega),List.getElem_append_right (by omega)]
   simp only [h1,Nat.sub_self,List.getElem_cons_zero]
   exact keyT _ _ ht
abbrev AncAt (w:World) (P:Nat) (r:Option Nat) (A:Option Addr) (a:List Int):Prop:=TlrAt w P r (A,0,none,0) ⟨a,[],0,false⟩
theorem TlrAt.below' {v:Option Addr × Nat × Option Addr × Nat} {t:Tlr} (h:TlrAt w P r v t) (hb:Below w.heap.size w w'):TlrAt w' P r v t:=h.kept (q:=none) ⟨hb.os,hb.tape,hb.output,hb.size,fun k hk _=>hb.block k hk⟩ (.inr (.inr rfl))
theorem AncAt.mk' {A:Option Addr} {a:List Int} (h1:Ints w A a) (h2:Apt P r A a):AncAt w P r A a:=⟨h1,h2,fun e=>absurd rfl e,fun e=>absurd rfl e⟩
theorem Apt.own {n k:Nat} {A:Option Addr} {a:List Int} {n0:Nat} (h:w'.ownsRow n0 3 1 (.slice A n k) n (a.map (Value.int .i64))) (hP:P≤n0) (hr:∀q,r=some q→q < n0):Apt P r A a:=fun _ b hb=>by
 have h1:=(h.lt b.block (by rw [hb];rfl)).1
 exact ⟨by omega,fun e=>by have:=hr _ e;omega⟩
structure PsL (P base:Nat) (s:ByteArray) (w:World) (j:Nat) (w':World):Prop where
 box:PsB w' P s j
 os:w'.os=w.os
 tape:w'.tape=w.tape
 output:w'.output=w.output
 size:w.heap.size≤w'.heap.size
 low:∀q,q < base→q≠P→w'.heap[q]?=w.heap[q]?
section
variable {i j:Nat} {s:ByteArray} {w'':World}
theorem PsL.here (h:PsB w P s i):PsL P base s w i w:=⟨h,rfl,rfl,rfl,Nat.le_refl _,fun _ _ _=>rfl⟩
theorem PsL.toq (h:PsL P base s w i w') (h2:PsTo P s w' j w'') (hb:base≤w.heap.size):PsL P base s w j w'':=
 ⟨h2.box,h2.gr.os.trans h.os,h2.gr.tape.trans h.tape,h2.gr.output.trans h.output,Nat.le_trans h.size h2.gr.size,fun q hq hn=>(h2.gr.block q (by have:=h.size;omega) (fun e=>hn (by first | (injection e) | (injection e with e;exact e.symm)))).trans (h.low q hq hn)⟩
theorem PsL.at (h:PsL P base s w i w'):psAt P w'=i:=by
 unfold psAt
 rw [h.box.cell (i:=1) rfl]
 rfl
theorem PsL.bel (h:PsL P base s w i w') (hb:Below base w' w'') (hP:P < base):PsL P base s w i w'':=
 ⟨h.box.below hb hP,hb.os.trans h.os,hb.tape.trans h.tape,hb.output.trans h.output,Nat.le_trans h.size hb.size,fun q hq hn=>(hb.block q hq).trans (h.low q hq hn)⟩
end
end
theorem stpN_more {s:ByteArray}:∀(n m:Nat) (a:List Int) (b:Bool) (l:List Tlr) (i:Nat),i≤s.size→s.size+1 - i≤n→s.size+1 - i≤m→stpN s n a b l i=stpN s m a b l i
 | 0,m,a,b,l,i,hi,h,_=>by omega
 | n+1,0,a,b,l,i,hi,_,h=>by omega
 | n+1,m+1,a,b,l,i,hi,h1,h2=>by
  unfold stpN
  cases hs:sgn s i with
  | error e=>rfl
  | ok q=>
   obtain ⟨k,j⟩:=q
   have g1:=sgn_ok hs
   have g2:=blk_le s j
   dsimp only
   cases hl:lit s (skp s j) with
   | error e=>rfl
   | ok q2=>
    obtain ⟨t,j2⟩:=q2
    have g3:=lit_ok hl
    dsimp only
    split
    ·exact stpN_more n m _ _ _ j2 g3.2 (by omega) (by omega)
    ·rfl
def stpR (s:ByteArray) (a:List Int) (b:Bool) (l:List Tlr) (i:Nat):Rd (List Tlr):=stpN s (s.size+1 - i) a b l i
theorem stpR_step {s:ByteArray} {a:List Int} {b:Bool} {l:List Tlr} {i:Nat} (hi:i≤s.size):stpR s a b l i=match sgn s i with
  | .error e=>.error e
  | .ok (k,j)=>match lit s (skp s j) with
   | .error e=>.error e
   | .ok (t,j2)=>if bt s j2=60∨bt s j2=61 then stpR s t false (l++[⟨a,t,k,b⟩]) j2 else .ok (l++[⟨a,t,k,b⟩],j2):=by
 unfold stpR
 rw [show s.size+1 - i=(s.size - i)+1 by omega]
 conv=>lhs;unfold stpN
 cases hs:sgn s i with
 | error e=>rfl
 | ok q=>
  obtain ⟨k,j⟩:=q
  have g1:=sgn_ok hs
  have g2:=blk_le s j
  dsimp only
  cases hl:lit s (skp s j) with
  | error e=>rfl
  | ok q2=>
   obtain ⟨t,j2⟩:=q2
   have g3:=lit_ok hl
   dsimp only
   split
   ·exact stpN_more _ _ _ _ _ j2 g3.2 (by omega) (Nat.le_refl _)
   ·rfl
def restR (s:ByteArray) (fst:Bool) (a:List Int) (b:Bool) (l:List Tlr) (i:Nat):Rd (List Tlr):=if fst=true∨bt s i=60∨bt s i=61 then stpR s a (b&&fst) l i else .ok (l,i)
theorem chn_at2 (s:ByteArray) (l:List Tlr) (i:Nat):chn s l i=match wrd s [38] i with
  | .error e=>.error e
  | .ok (_,i1)=>match bfr s (skp s i1) with
   | .error e=>.error e
   | .ok (b,i2)=>match lit s i2 with
    | .error e=>.error e
    | .ok (a,i3)=>restR s true a b l i3:=by
 rw [chn_eq]
 cases wrd s [38] i with
 | error e=>rfl
 | ok q=>
  obtain ⟨u,i1⟩:=q
  dsimp only
  cases bfr s (skp s i1) with
  | error e=>rfl
  | ok q2=>
   obtain ⟨b,i2⟩:=q2
   dsimp only
   cases lit s i2 with
   | error e=>rfl
   | ok q3=>
    obtain ⟨a,i3⟩:=q3
    dsimp only
    unfold restR stpR
    rw [if_pos (.inl rfl),Bool.and_true]
theorem restR_stop {s:ByteArray} {a:List Int} {b:Bool} {l:List Tlr} {i:Nat} (h:¬(bt s i=60∨bt s i=61)):restR s false a b l i=.ok (l,i):=by
 unfold restR
 rw [if_neg (by rintro (g | g);cases g;exact h g)]
theorem restR_step {s:ByteArray} {fst:Bool} {a:List Int} {b:Bool} {l:List Tlr} {i:Nat} (hi:i≤s.size) (h:fst=true∨bt s i=60∨bt s i=61):restR s fst a b l i=match sgn s i with
  | .error e=>.error e
  | .ok (k,j)=>match lit s (skp s j) with
   | .error e=>.error e
   | .ok (t,j2)=>restR s false t b (l++[⟨a,t,k,b&&fst⟩]) j2:=by
 unfold restR
 rw [if_pos h,stpR_step hi]
 cases sgn s i with
 | error e=>rfl
 | ok q=>
  obtain ⟨k,j⟩:=q
  dsimp only
  cases lit s (skp s j) with
  | error e=>rfl
  | ok q2=>
   obtain ⟨t,j2⟩:=q2
   dsimp only
   by_cases g:bt s j2=60∨bt s j2=61
   ·rw [if_pos g,if_pos (.inr g),Bool.and_false]
   ·rw [if_neg g,if_neg (by rintro (q | q);cases q;exact g q)]
def chainV (P base:Nat) (l:List Tlr) (v:Value) (w':World):Prop:=∃K c,v=.slice K l.length c∧StepsAt w' P base K c l
def RdL {α:Type} (P base:Nat) (s:ByteArray) (V:α→Value→World→Prop) (r:Rd α) (w:World) (e:Ending) (w':World):Prop:=
 match r with
 | .ok (a,j)=>(∃v,e=.returned v∧V a v w')∧PsL P base s w j w'
 | .error j=>Flt e∧PsL P base s w j w'
theorem bfr_cases {s:ByteArray} {i j:Nat} {b:Bool} (h:bfr s i=.ok (b,j)):(bt s i=91∧∃k,wrd s [91,98,101,102,111,114,101,93] i=.ok ((),k)∧b=true∧j=skp s k)∨(¬bt s i=91∧b=false∧j=i):=by
 unfold bfr at h
 split at h
 ·next h0=>
  split at h
  ·cases h
  ·next u k hk=>
   injection h with h;injection h with h1 h2
   exact .inl ⟨h0,k,hk,h1.symm,h2.symm⟩
 ·next h0=>
  injection h with h;injection h with h1 h2
  exact .inr ⟨h0,h1.symm,h2.symm⟩
theorem bfr_errs {s:ByteArray} {i f:Nat} (h:bfr s i=.error f):bt s i=91∧wrd s [91,98,101,102,111,114,101,93] i=.error f:=by
 unfold bfr at h
 split at h
 ·next h0=>
  split at h
  ·next e hk=>injection h with h;subst h;exact ⟨h0,hk⟩
  ·cases h
 ·cases h
theorem wrdB:Wrd ⟨#[91,98,101,102,111,114,101,93]⟩ [91,98,101,102,111,114,101,93]:=by
 refine ⟨rfl,fun k h h2=>?_,fun x hx=>by simp at hx;omega⟩
 match k,h2 with
 | 0,_=>rfl
 | 1,_=>rfl
 | 2,_=>rfl
 | 3,_=>rfl
 | 4,_=>rfl
 | 5,_=>rfl
 | 6,_=>rfl
 | 7,_=>rfl
theorem pchain_any (P base:Nat) (s:ByteArray) (i:Nat) (K:Option Addr) (c:Nat) (l:List Tlr) (w:World) (hP:PsB w P s i) (hPb:P < base) (hbw:base≤w.heap.size) (hS:StepsAt w P base K c l) (hi:i≤s.size) (hs:s.size≤65536) (hl:l.length≤i) :
  Calls Tryz.prog 59 #[.pointer (some ⟨P,0,none⟩),.slice K l.length c] w (RdL P base s (chainV P base) (chn s l i) w):=by
 have HP:=Lib.hid (PsL.here (base:=base) hP)
 have HS:=Lib.hid hS
 have KN:=Lib.hid (fun j (W:World) (h:PsL P base s w j W) (hj:j≤s.size)=>next_any P s j W h.box hj)
 have KE:=Lib.hid (expect_any P s ⟨#[38]⟩ [38] i w hP hi (by omega) (wrd1 38 (by decide) _ rfl (by decide)) (by decide))
 have KG:=Lib.hid (fun j (W:World) (h:PsL P base s w j W) (hj:j≤s.size)=>expect_any P s ⟨#[91,98,101,102,111,114,101,93]⟩ [91,98,101,102,111,114,101,93] j W h.box hj (by omega) wrdB (by decide))
 have KL:=Lib.hid (fun j (W:World) (h:PsL P base s w j W) (hj:j≤s.size)=>plit_any P s j W h.box hj hs)
 have KS:=Lib.hid (fun j (W:World) (h:PsL P base s w j W) (hj:j≤s.size)=>psign_any P s j W h.box hj (by omega))
 have KB:=Lib.hid (fun j (W:World) (h:PsL P base s w j W) (hj:j≤s.size)=>blanks_any P s j W h.box hj (by omega))
 have KC:=Lib.hid (fun A n k zs (W:World) (h:Ints W A zs) (hn:zs.length=n) (hb:n≤1048576)=>cloneI_any A n k zs W h hn hb)
 unfold RdR at KE KG KL KS
 unfold RetOwnI at KC
 obtain ⟨r,hr⟩:∃r,chn s l i=r:=⟨_,rfl⟩
 have HR0:=Lib.hid (hr.symm.trans (chn_at2 s l i))
 rw [hr]
 clear hP hr hS
 cases h1:wrd s [38] i with
 | error f=>
  rw [h1] at HR0 KE
  have HF:=Lib.hid (show r=.error f from HR0.out)
  clear h1 HR0
  go_enter Tryz.func59,Tryz.ntmps59
  go_wp2_with fail
  with_reducible refine KE.out.mono ?_
  rintro e W1 ⟨⟨u,pv,rfl⟩,hp1⟩
  have HW:=Lib.hid (HP.out.toq hp1 hbw)
  clear hp1
  go_wp2_with fail
  rw [HF.out]
  exact ⟨rfl,⟨_,_,rfl⟩,HW.out⟩
 | ok q1=>
 obtain ⟨u1,i1⟩:=q1
 have hi1:=(wrd_ok (by simp) h1).2 (by simp)
 have hi1b:=(wrd_ok (by simp) h1).1
 rw [h1] at HR0 KE
 dsimp only [List.length] at hi1b
 clear h1
 dsimp only at HR0 KE
 have hbs:=blk_sz hi1
 have hbl:=blk_le s i1
 have KB1:=Lib.hid (fun (W:World) (h:PsL P base s w i1 W)=>KB.out i1 W h hi1)
 obtain ⟨b1,hb1⟩:∃b1,skp s i1=b1:=⟨_,rfl⟩
 rw [hb1] at HR0 KB1 hbs hbl
 clear hb1
 go_enter Tryz.func59,Tryz.ntmps59
 go_wp2_with fail
 with_reducible refine KE.out.mono ?_
 rintro e W1 ⟨⟨v,rfl,rfl⟩,hp1⟩
 have HW1:=Lib.hid (HP.out.toq hp1 hbw)
 have HS1:=Lib.hid (HS.out.ps hp1.gr hPb)
 have KB2:=Lib.hid (KB1.out W1 HW1.out)
 clear hp1 KE KB1 HP HS
 go_wp2_with fail
 with_reducible refine KB2.out.mono ?_
 rintro e W2 ⟨rfl,hp2⟩
 have HW2:=Lib.hid (HW1.out.toq hp2 hbw)
 have HS2:=Lib.hid (HS1.out.ps hp2.gr hPb)
 have KN2:=Lib.hid (KN.out b1 W2 HW2.out hbs)
 clear hp2 KB2 HW1 HS1
 go_wp2_with fail
 with_reducible refine KN2.out.mono ?_
 rintro e W3 ⟨rfl,hp3⟩
 have HW3:=Lib.hid (HW2.out.toq hp3 hbw)
 have HS3:=Lib.hid (HS2.out.ps hp3.gr hPb)
 have KG3:=Lib.hid (KG.out b1 W3 HW3.out hbs)
 clear hp3 KN2 HW2 HS2 KG
 cases h2:bfr s b1 with
 | error f=>
  obtain ⟨g1,g2⟩:=bfr_errs h2
  rw [h2] at HR0
  rw [g2] at KG3
  have HF:=Lib.hid (show r=.error f from HR0.out)
  have d1:((bt s b1:Int)==91)=true:=by simp;omega
  clear h2 HR0 g1 g2
  generalize bt s b1=bb at *
  go_wp2_with fail
  with_reducible refine KG3.out.mono ?_
  rintro e W4 ⟨⟨u,pv,rfl⟩,hp4⟩
  have HW:=Lib.hid (HW3.out.toq hp4 hbw)
  clear hp4
  go_wp2_with fail
  rw [HF.out]
  exact ⟨rfl,⟨_,_,rfl⟩,HW.out⟩
 | ok q2=>
 obtain ⟨bv,i2⟩:=q2
 have HBC:=Lib.hid (bfr_cases h2)
 have hi2:=bfr_ok h2
 rw [h2] at HR0
 clear h2
 dsimp only at HR0
 have HB9:=Lib.hid (show ∀bb,bt s b1=bb→bb=bt s b1 from fun _ e=>e.symm)
 go_upto_if 16 with (fail)
 go_cut [5] (fun s5 wx=>s5=.bool bv∧i2≤s.size∧PsL P base s w i2 wx∧StepsAt wx P base K c l)
 case first=>
  rcases HBC.out with ⟨g1,k,g2,rfl,rfl⟩ | ⟨g1,rfl,rfl⟩
  ·have d1:((bt s b1:Int)==91)=true:=by simp;omega
   have hk:=(wrd_ok (by simp) g2).2 (by simp)
   rw [g2] at KG3
   dsimp only at KG3
   have hks:=blk_sz hk
   have KB3:=Lib.hid (fun (W:World) (h:PsL P base s w k W)=>KB.out k W h hk)
   clear g1 g2 HBC HB9
   generalize bt s b1=bb at *
   generalize skp s k=k2 at *
   go_wp2_with fail
   with_reducible refine KG3.out.mono ?_
   rintro e W4 ⟨⟨v,rfl,rfl⟩,hp4⟩
   have HW4:=Lib.hid (HW3.out.toq hp4 hbw)
   have HS4:=Lib.hid (HS3.out.ps hp4.gr hPb)
   have KB4:=Lib.hid (KB3.out W4 HW4.out)
   clear hp4 KB3
   go_wp2_with fail
   with_reducible refine KB4.out.mono ?_
   rintro e W5 ⟨rfl,hp5⟩
   have HW5:=Lib.hid (HW4.out.toq hp5 hbw)
   have HS5:=Lib.hid (HS4.out.ps hp5.gr hPb)
   clear hp5
   go_wp2_with fail
   go_meet
   exact ⟨rfl,hks,HW5.out,HS5.out⟩
  ·have d1:((bt s i2:Int)==91)=false:=by simp;omega
   clear g1 HBC HB9
   generalize bt s i2=bb at *
   go_wp2_with fail
   go_meet
   exact ⟨rfl,hbs,HW3.out,HS3.out⟩
 case rest=>
  obtain ⟨rfl,hi2s,hpc,hsc⟩:=hcut
  have HWc:=Lib.hid hpc
  have HSc:=Lib.hid hsc
  clear hpc hsc HBC HB9 HW3 HS3 KG3
  have KL2:=Lib.hid (KL.out i2 wc HWc.out hi2s)
  cases h3:lit s i2 with
  | error f=>
   rw [h3] at HR0 KL2
   have HF:=Lib.hid (show r=.error f from HR0.out)
   clear h3 HR0
   go_wp2_with fail
   with_reducible refine KL2.out.mono ?_
   rintro e W4 ⟨⟨u,pv,rfl⟩,hp4⟩
   have HW:=Lib.hid (HWc.out.toq hp4 hbw)
   clear hp4
   go_wp2_with fail
   rw [HF.out]
   exact ⟨rfl,⟨_,_,rfl⟩,HW.out⟩
  | ok q3=>
   obtain ⟨a0,i3⟩:=q3
   have hi3:=lit_ok h3
   have hlb:=(lit_bd h3).2
   rw [h3] at HR0 KL2
   clear h3
   dsimp only at HR0 KL2
   have HR1:=Lib.hid (show r=restR s true a0 bv l i3 from HR0.out)
   clear HR0
   unfold ownV at KL2 KL
   go_wp2_with fail
   with_reducible refine KL2.out.mono ?_
   rintro e W4 ⟨⟨v,rfl,A0,ac0,rfl,ho4⟩,hp4⟩
   have HW4:=Lib.hid (HWc.out.toq hp4 hbw)
   have HS4:=Lib.hid (HSc.out.ps hp4.gr hPb)
   have hbc:base≤wc.heap.size:=Nat.le_trans hbw HWc.out.size
   have HA4:=Lib.hid (AncAt.mk' (P:=base) (r:=Value.ownBlock (.slice K l.length c)) (Sl.of_own ho4) (Apt.own ho4 (by omega) (fun q hq=>(HSc.out.lt q hq).2)))
   clear hp4 ho4 KL2 HSc HWc
   go_wp2_with fail
   go_loopw [1,6,7] (fun st an fs wr=>∃(m:List Tlr) (Km:Option Addr) (cm:Nat) (fst:Bool) (a:List Int) (A:Option Addr) (ac p:Nat),p≤s.size∧m.length≤p∧a.length≤65536∧st=.slice Km m.length cm∧an=.slice A a.length ac∧fs=.bool fst∧Hid (r=restR s fst a bv m p)∧PsL P base s w p wr∧StepsAt wr P base Km cm m∧AncAt wr base (Value.ownBlock (.slice Km m.length cm)) A a) (fun _ _ _ wr=>s.size - psAt P wr)
   case atStart=>exact ⟨l,K,c,true,a0,A0,ac0,i3,hi3.2,by have:=hi2.1;omega,by have:=hi3.2;omega,rfl,rfl,rfl,HR1,HW4.out,HS4.out,HA4.out⟩
   case round=>
    obtain ⟨m,Km,cm,fst,a,A,ac,p,hp,hmp,hal,rfl,rfl,rfl,hb,hps,hst,han⟩:=hrel
    have HR:=Lib.hid hps
    have HAT:=Lib.hid hps.at
    have HSm:=Lib.hid hst
    have HA:=Lib.hid han
    clear hps hst han HR1 HW4 HS4 HA4
    cases fst with
    | true=>
     have HST:=Lib.hid (hb.out.trans (restR_step hp (.inl rfl)))
     clear hb
     have hW0:True:=trivial
     have HRx:=HR
     have HSx:=HSm
     have HAx:=HA
     clear HR HSm HA
     have KS1:=Lib.hid (KS.out p _ HRx.out hp)
     cases h4:sgn s p with
     | error f=>
      rw [h4] at HST KS1
      have HF:=Lib.hid (show r=.error f from HST.out)
      clear h4 HST
      go_wp2_with fail
      with_reducible refine KS1.out.mono ?_
      rintro e W7 ⟨⟨u,pv,rfl⟩,hp7⟩
      have HW:=Lib.hid (HRx.out.toq hp7 hbw)
      clear hp7
      go_wp2_with fail
      rw [HF.out]
      exact ⟨rfl,⟨_,_,rfl⟩,HW.out⟩
     | ok q4=>
      obtain ⟨kk,j1⟩:=q4
      have hj1:=sgn_ok h4
      have hj2:=blk_sz hj1.2
      have hj3:=blk_le s j1
      rw [h4] at HST KS1
      clear h4
      dsimp only at HST KS1
      have KB5:=Lib.hid (fun (W:World) (h:PsL P base s w j1 W)=>KB.out j1 W h hj1.2)
      have KL5:=Lib.hid (fun (W:World) (h:PsL P base s w (skp s j1) W)=>KL.out (skp s j1) W h hj2)
      generalize skp s j1=j2 at *
      unfold intV at KS1
      go_wp2_with fail
      with_reducible refine KS1.out.mono ?_
      rintro e W7 ⟨⟨v,rfl,rfl⟩,hp7⟩
      have HR7:=Lib.hid (HRx.out.toq hp7 hbw)
      have HS7:=Lib.hid (HSx.out.ps hp7.gr hPb)
      have HA7:=Lib.hid (HAx.out.kept hp7.gr (.inl ⟨P,rfl,hPb⟩))
      have KB6:=Lib.hid (KB5.out W7 HR7.out)
      clear hp7 KS1 KB5
      go_wp2_with fail
      with_reducible refine KB6.out.mono ?_
      rintro e W8 ⟨rfl,hp8⟩
      have HR8:=Lib.hid (HR7.out.toq hp8 hbw)
      have HS8:=Lib.hid (HS7.out.ps hp8.gr hPb)
      have HA8:=Lib.hid (HA7.out.kept hp8.gr (.inl ⟨P,rfl,hPb⟩))
      have KL6:=Lib.hid (KL5.out W8 HR8.out)
      clear hp8 KB6 KL5 HR7 HS7 HA7
      cases h5:lit s j2 with
      | error f=>
       rw [h5] at HST KL6
       have HF:=Lib.hid (show r=.error f from HST.out)
       clear h5 HST
       go_wp2_with fail
       with_reducible refine KL6.out.mono ?_
       rintro e W9 ⟨⟨u,pv,rfl⟩,hp9⟩
       have HW:=Lib.hid (HR8.out.toq hp9 hbw)
       clear hp9
       go_wp2_with fail
       rw [HF.out]
       exact ⟨rfl,⟨_,_,rfl⟩,HW.out⟩
      | ok q5=>
       obtain ⟨tx,j3⟩:=q5
       have hj4:=lit_ok h5
       have hj5:=(lit_bd h5).2
       rw [h5] at HST KL6
       clear h5
       dsimp only at HST KL6
       go_wp2_with fail
       with_reducible refine KL6.out.mono ?_
       rintro e W9 ⟨⟨v,rfl,B0,bc0,rfl,ho9⟩,hp9⟩
       have HR9:=Lib.hid (HR8.out.toq hp9 hbw)
       have HS9:=Lib.hid (HS8.out.ps hp9.gr hPb)
       have HA9:=Lib.hid (HA8.out.kept hp9.gr (.inl ⟨P,rfl,hPb⟩))
       have hb8:base≤W8.heap.size:=Nat.le_trans hbw HR8.out.size
       have hb9:base≤W9.heap.size:=Nat.le_trans hbw HR9.out.size
       have HB9:=Lib.hid (AncAt.mk' (P:=base) (r:=Value.ownBlock (.slice Km m.length cm)) (Sl.of_own ho9) (Apt.own ho9 (by omega) (fun q hq=>(HS8.out.lt q hq).2)))
       obtain ⟨vs,hv1,hv2,hv3⟩:=HS9.out.ex
       have HV2:=Lib.hid hv2
       have HV3:=Lib.hid (fun (o:Obj) (w3:World) (K3:Option Addr) (k3:Nat) (v:Option Addr × Nat × Option Addr × Nat) (t:Tlr) ho hg hB ht=>StepsAt.app (P:=P) (base:=base) hv1 hv3 (o:=o) (w3:=w3) (K3:=K3) (k3:=k3) (v:=v) (t:=t) ho hg hB ht)
       have HTL:=Lib.hid (fun (b:Bool)=>show TlrAt W9 base (Value.ownBlock (.slice Km m.length cm)) (A,ac,B0,bc0) ⟨a,tx,kk,b⟩ from ⟨HA9.out.a,HA9.out.pa,HB9.out.a,HB9.out.pa⟩)
       clear hp9 ho9 KL6 HR8 HS8 HA8 hv1 hv2 hv3 HS9
       cases bv with
       | true=>
        go_wp2_with (at_builtin;refine wpList_app _ _ 44 35 (.agg #[.slice none 0 0,.slice none 0 0,.int .i64 0,.bool false]) 4 64 rfl rfl Tryz.underlying44 info_tlr rfl (by decide) (by decide) rfl (HV2.out.alloc _) rfl (Sl_new W9 (tlrC (A,ac,B0,bc0) ⟨a,tx,kk,true⟩) _ rfl) (by rfl) (by intro u hu;simp only [tlrC,List.mem_cons,List.not_mem_nil,or_false] at hu;rcases hu with rfl | rfl | rfl | rfl <;> rfl) (by omega) (by simp;omega) ?_;intro K3 k3 w3 hown3 hc3 hb3 hg3 hB3)
        have HSn:=Lib.hid (HV3.out _ w3 K3 k3 _ _ hown3 hg3 hB3 (HTL.out true))
        have HRn:=Lib.hid ((HR9.out.bel ((Below.refl _ _).alloc hb9 _) hPb).bel hb3 hPb)
        have HI3:=Lib.hid (((HB9.out.below' ((Below.refl _ _).alloc (Nat.le_refl _) _)).kept hg3 (.inr (.inl rfl))).a)
        have hz3:=HRn.out.size
        have KC3:=Lib.hid (KC.out B0 tx.length bc0 tx w3 HI3.out rfl (by omega))
        clear hown3 hc3 hb3 hg3 hB3 HV2 HV3 HTL HB9 HA9 HI3
        go_wp2_with fail
        with_reducible refine KC3.out.mono ?_
        rintro e W11 ⟨A',c',rfl,ho11,hb11⟩
        have HAf:=Lib.hid (AncAt.mk' (P:=base) (r:=Value.ownBlock (.slice K3 (m++[(⟨a,tx,kk,true⟩:Tlr)]).length k3)) (Sl.of_own ho11) (Apt.own ho11 (by omega) (fun q hq=>(HSn.out.lt q hq).2)))
        have HSf:=Lib.hid (HSn.out.below hb11)
        have HRf:=Lib.hid (HRn.out.bel (hb11.mono (Nat.le_trans hbw hz3)) hPb)
        clear ho11 hb11 KC3 HSn HRn
        go_wp2_with fail
        go_roundw
        case rel=>exact ⟨m++[(⟨a,tx,kk,true⟩:Tlr)],K3,k3,false,tx,A',c',j3,hj4.2,by simp;omega,by omega,by rw [List.length_append];rfl,rfl,rfl,HST,HRf.out,HSf.out,HAf.out⟩
        case measure=>
         have q1:=HRf.out.at
         have q2:=HAT.out
         have q3:=hj1.1
         omega
       | false=>
        go_wp2_with (at_builtin;refine wpList_app _ _ 44 35 (.agg #[.slice none 0 0,.slice none 0 0,.int .i64 0,.bool false]) 4 64 rfl rfl Tryz.underlying44 info_tlr rfl (by decide) (by decide) rfl (HV2.out.alloc _) rfl (Sl_new W9 (tlrC (A,ac,B0,bc0) ⟨a,tx,kk,false⟩) _ rfl) (by rfl) (by intro u hu;simp only [tlrC,List.mem_cons,List.not_mem_nil,or_false] at hu;rcases hu with rfl | rfl | rfl | rfl <;> rfl) (by omega) (by simp;omega) ?_;intro K3 k3 w3 hown3 hc3 hb3 hg3 hB3)
        have HSn:=Lib.hid (HV3.out _ w3 K3 k3 _ _ hown3 hg3 hB3 (HTL.out false))
        have HRn:=Lib.hid ((HR9.out.bel ((Below.refl _ _).alloc hb9 _) hPb).bel hb3 hPb)
        have HI3:=Lib.hid (((HB9.out.below' ((Below.refl _ _).alloc (Nat.le_refl _) _)).kept hg3 (.inr (.inl rfl))).a)
        have hz3:=HRn.out.size
        have KC3:=Lib.hid (KC.out B0 tx.length bc0 tx w3 HI3.out rfl (by omega))
        clear hown3 hc3 hb3 hg3 hB3 HV2 HV3 HTL HB9 HA9 HI3
        go_wp2_with fail
        with_reducible refine KC3.out.mono ?_
        rintro e W11 ⟨A',c',rfl,ho11,hb11⟩
        have HAf:=Lib.hid (AncAt.mk' (P:=base) (r:=Value.ownBlock (.slice K3 (m++[(⟨a,tx,kk,false⟩:Tlr)]).length k3)) (Sl.of_own ho11) (Apt.own ho11 (by omega) (fun q hq=>(HSn.out.lt q hq).2)))
        have HSf:=Lib.hid (HSn.out.below hb11)
        have HRf:=Lib.hid (HRn.out.bel (hb11.mono (Nat.le_trans hbw hz3)) hPb)
        clear ho11 hb11 KC3 HSn HRn
        go_wp2_with fail
        go_roundw
        case rel=>exact ⟨m++[(⟨a,tx,kk,false⟩:Tlr)],K3,k3,false,tx,A',c',j3,hj4.2,by simp;omega,by omega,by rw [List.length_append];rfl,rfl,rfl,HST,HRf.out,HSf.out,HAf.out⟩
        case measure=>
         have q1:=HRf.out.at
         have q2:=HAT.out
         have q3:=hj1.1
         omega
    | false=>
     have KN1:=Lib.hid (KN.out p _ HR.out hp)
     by_cases h60:bt s p=60
     ·have d1:((bt s p:Int)==60)=true:=by simp;omega
      have HST:=Lib.hid (hb.out.trans (restR_step hp (.inr (.inl h60))))
      clear h60 hb
      generalize bt s p=bb at *
      go_wp2_with fail
      with_reducible refine KN1.out.mono ?_
      rintro e W5 ⟨rfl,hp5⟩
      have HRx:=Lib.hid (HR.out.toq hp5 hbw)
      have HSx:=Lib.hid (HSm.out.ps hp5.gr hPb)
      have HAx:=Lib.hid (HA.out.kept hp5.gr (.inl ⟨P,rfl,hPb⟩))
      clear hp5 KN1
      have KS1:=Lib.hid (KS.out p _ HRx.out hp)
      cases h4:sgn s p with
      | error f=>
       rw [h4] at HST KS1
       have HF:=Lib.hid (show r=.error f from HST.out)
       clear h4 HST
       go_wp2_with fail
       with_reducible refine KS1.out.mono ?_
       rintro e W7 ⟨⟨u,pv,rfl⟩,hp7⟩
       have HW:=Lib.hid (HRx.out.toq hp7 hbw)
       clear hp7
       go_wp2_with fail
       rw [HF.out]
       exact ⟨rfl,⟨_,_,rfl⟩,HW.out⟩
      | ok q4=>
       obtain ⟨kk,j1⟩:=q4
       have hj1:=sgn_ok h4
       have hj2:=blk_sz hj1.2
       have hj3:=blk_le s j1
       rw [h4] at HST KS1
       clear h4
       dsimp only at HST KS1
       have KB5:=Lib.hid (fun (W:World) (h:PsL P base s w j1 W)=>KB.out j1 W h hj1.2)
       have KL5:=Lib.hid (fun (W:World) (h:PsL P base s w (skp s j1) W)=>KL.out (skp s j1) W h hj2)
       generalize skp s j1=j2 at *
       unfold intV at KS1
       go_wp2_with fail
       with_reducible refine KS1.out.mono ?_
       rintro e W7 ⟨⟨v,rfl,rfl⟩,hp7⟩
       have HR7:=Lib.hid (HRx.out.toq hp7 hbw)
       have HS7:=Lib.hid (HSx.out.ps hp7.gr hPb)
       have HA7:=Lib.hid (HAx.out.kept hp7.gr (.inl ⟨P,rfl,hPb⟩))
       have KB6:=Lib.hid (KB5.out W7 HR7.out)
       clear hp7 KS1 KB5
       go_wp2_with fail
       with_reducible refine KB6.out.mono ?_
       rintro e W8 ⟨rfl,hp8⟩
       have HR8:=Lib.hid (HR7.out.toq hp8 hbw)
       have HS8:=Lib.hid (HS7.out.ps hp8.gr hPb)
       have HA8:=Lib.hid (HA7.out.kept hp8.gr (.inl ⟨P,rfl,hPb⟩))
       have KL6:=Lib.hid (KL5.out W8 HR8.out)
       clear hp8 KB6 KL5 HR7 HS7 HA7
       cases h5:lit s j2 with
       | error f=>
        rw [h5] at HST KL6
        have HF:=Lib.hid (show r=.error f from HST.out)
        clear h5 HST
        go_wp2_with fail
        with_reducible refine KL6.out.mono ?_
        rintro e W9 ⟨⟨u,pv,rfl⟩,hp9⟩
        have HW:=Lib.hid (HR8.out.toq hp9 hbw)
        clear hp9
        go_wp2_with fail
        rw [HF.out]
        exact ⟨rfl,⟨_,_,rfl⟩,HW.out⟩
       | ok q5=>
        obtain ⟨tx,j3⟩:=q5
        have hj4:=lit_ok h5
        have hj5:=(lit_bd h5).2
        rw [h5] at HST KL6
        clear h5
        dsimp only at HST KL6
        go_wp2_with fail
        with_reducible refine KL6.out.mono ?_
        rintro e W9 ⟨⟨v,rfl,B0,bc0,rfl,ho9⟩,hp9⟩
        have HR9:=Lib.hid (HR8.out.toq hp9 hbw)
        have HS9:=Lib.hid (HS8.out.ps hp9.gr hPb)
        have HA9:=Lib.hid (HA8.out.kept hp9.gr (.inl ⟨P,rfl,hPb⟩))
        have hb8:base≤W8.heap.size:=Nat.le_trans hbw HR8.out.size
        have hb9:base≤W9.heap.size:=Nat.le_trans hbw HR9.out.size
        have HB9:=Lib.hid (AncAt.mk' (P:=base) (r:=Value.ownBlock (.slice Km m.length cm)) (Sl.of_own ho9) (Apt.own ho9 (by omega) (fun q hq=>(HS8.out.lt q hq).2)))
        obtain ⟨vs,hv1,hv2,hv3⟩:=HS9.out.ex
        have HV2:=Lib.hid hv2
        have HV3:=Lib.hid (fun (o:Obj) (w3:World) (K3:Option Addr) (k3:Nat) (v:Option Addr × Nat × Option Addr × Nat) (t:Tlr) ho hg hB ht=>StepsAt.app (P:=P) (base:=base) hv1 hv3 (o:=o) (w3:=w3) (K3:=K3) (k3:=k3) (v:=v) (t:=t) ho hg hB ht)
        have HTL:=Lib.hid (fun (b:Bool)=>show TlrAt W9 base (Value.ownBlock (.slice Km m.length cm)) (A,ac,B0,bc0) ⟨a,tx,kk,b⟩ from ⟨HA9.out.a,HA9.out.pa,HB9.out.a,HB9.out.pa⟩)
        clear hp9 ho9 KL6 HR8 HS8 HA8 hv1 hv2 hv3 HS9
        cases bv with
        | true=>
         go_wp2_with (at_builtin;refine wpList_app _ _ 44 35 (.agg #[.slice none 0 0,.slice none 0 0,.int .i64 0,.bool false]) 4 64 rfl rfl Tryz.underlying44 info_tlr rfl (by decide) (by decide) rfl (HV2.out.alloc _) rfl (Sl_new W9 (tlrC (A,ac,B0,bc0) ⟨a,tx,kk,false⟩) _ rfl) (by rfl) (by intro u hu;simp only [tlrC,List.mem_cons,List.not_mem_nil,or_false] at hu;rcases hu with rfl | rfl | rfl | rfl <;> rfl) (by omega) (by simp;omega) ?_;intro K3 k3 w3 hown3 hc3 hb3 hg3 hB3)
         have HSn:=Lib.hid (HV3.out _ w3 K3 k3 _ _ hown3 hg3 hB3 (HTL.out false))
         have HRn:=Lib.hid ((HR9.out.bel ((Below.refl _ _).alloc hb9 _) hPb).bel hb3 hPb)
         have HI3:=Lib.hid (((HB9.out.below' ((Below.refl _ _).alloc (Nat.le_refl _) _)).kept hg3 (.inr (.inl rfl))).a)
         have hz3:=HRn.out.size
         have KC3:=Lib.hid (KC.out B0 tx.length bc0 tx w3 HI3.out rfl (by omega))
         clear hown3 hc3 hb3 hg3 hB3 HV2 HV3 HTL HB9 HA9 HI3
         go_wp2_with fail
         with_reducible refine KC3.out.mono ?_
         rintro e W11 ⟨A',c',rfl,ho11,hb11⟩
         have HAf:=Lib.hid (AncAt.mk' (P:=base) (r:=Value.ownBlock (.slice K3 (m++[(⟨a,tx,kk,false⟩:Tlr)]).length k3)) (Sl.of_own ho11) (Apt.own ho11 (by omega) (fun q hq=>(HSn.out.lt q hq).2)))
         have HSf:=Lib.hid (HSn.out.below hb11)
         have HRf:=Lib.hid (HRn.out.bel (hb11.mono (Nat.le_trans hbw hz3)) hPb)
         clear ho11 hb11 KC3 HSn HRn
         go_wp2_with fail
         go_roundw
         case rel=>exact ⟨m++[(⟨a,tx,kk,false⟩:Tlr)],K3,k3,false,tx,A',c',j3,hj4.2,by simp;omega,by omega,by rw [List.length_append];rfl,rfl,rfl,HST,HRf.out,HSf.out,HAf.out⟩
         case measure=>
          have q1:=HRf.out.at
          have q2:=HAT.out
          have q3:=hj1.1
          omega
        | false=>
         go_wp2_with (at_builtin;refine wpList_app _ _ 44 35 (.agg #[.slice none 0 0,.slice none 0 0,.int .i64 0,.bool false]) 4 64 rfl rfl Tryz.underlying44 info_tlr rfl (by decide) (by decide) rfl (HV2.out.alloc _) rfl (Sl_new W9 (tlrC (A,ac,B0,bc0) ⟨a,tx,kk,false⟩) _ rfl) (by rfl) (by intro u hu;simp only [tlrC,List.mem_cons,List.not_mem_nil,or_false] at hu;rcases hu with rfl | rfl | rfl | rfl <;> rfl) (by omega) (by simp;omega) ?_;intro K3 k3 w3 hown3 hc3 hb3 hg3 hB3)
         have HSn:=Lib.hid (HV3.out _ w3 K3 k3 _ _ hown3 hg3 hB3 (HTL.out false))
         have HRn:=Lib.hid ((HR9.out.bel ((Below.refl _ _).alloc hb9 _) hPb).bel hb3 hPb)
         have HI3:=Lib.hid (((HB9.out.below' ((Below.refl _ _).alloc (Nat.le_refl _) _)).kept hg3 (.inr (.inl rfl))).a)
         have hz3:=HRn.out.size
         have KC3:=Lib.hid (KC.out B0 tx.length bc0 tx w3 HI3.out rfl (by omega))
         clear hown3 hc3 hb3 hg3 hB3 HV2 HV3 HTL HB9 HA9 HI3
         go_wp2_with fail
         with_reducible refine KC3.out.mono ?_
         rintro e W11 ⟨A',c',rfl,ho11,hb11⟩
         have HAf:=Lib.hid (AncAt.mk' (P:=base) (r:=Value.ownBlock (.slice K3 (m++[(⟨a,tx,kk,false⟩:Tlr)]).length k3)) (Sl.of_own ho11) (Apt.own ho11 (by omega) (fun q hq=>(HSn.out.lt q hq).2)))
         have HSf:=Lib.hid (HSn.out.below hb11)
         have HRf:=Lib.hid (HRn.out.bel (hb11.mono (Nat.le_trans hbw hz3)) hPb)
         clear ho11 hb11 KC3 HSn HRn
         go_wp2_with fail
         go_roundw
         case rel=>exact ⟨m++[(⟨a,tx,kk,false⟩:Tlr)],K3,k3,false,tx,A',c',j3,hj4.2,by simp;omega,by omega,by rw [List.length_append];rfl,rfl,rfl,HST,HRf.out,HSf.out,HAf.out⟩
         case measure=>
          have q1:=HRf.out.at
          have q2:=HAT.out
          have q3:=hj1.1
          omega
     ·have d1:((bt s p:Int)==60)=false:=by simp;omega
      have KN2:=Lib.hid (fun (W:World) (h:PsL P base s w p W)=>KN.out p W h hp)
      by_cases h61:bt s p=61
      ·have d2:((bt s p:Int)==61)=true:=by simp;omega
       have HST:=Lib.hid (hb.out.trans (restR_step hp (.inr (.inr h61))))
       clear h60 h61 hb
       generalize bt s p=bb at *
       go_wp2_with fail
       with_reducible refine KN1.out.mono ?_
       rintro e W5 ⟨rfl,hp5⟩
       have HR5:=Lib.hid (HR.out.toq hp5 hbw)
       have HS5:=Lib.hid (HSm.out.ps hp5.gr hPb)
       have HA5:=Lib.hid (HA.out.kept hp5.gr (.inl ⟨P,rfl,hPb⟩))
       have KN3:=Lib.hid (KN2.out W5 HR5.out)
       clear hp5 KN1 KN2
       go_wp2_with fail
       with_reducible refine KN3.out.mono ?_
       rintro e W6 ⟨rfl,hp6⟩
       have HRx:=Lib.hid (HR5.out.toq hp6 hbw)
       have HSx:=Lib.hid (HS5.out.ps hp6.gr hPb)
       have HAx:=Lib.hid (HA5.out.kept hp6.gr (.inl ⟨P,rfl,hPb⟩))
       clear hp6 KN3 HR5 HS5 HA5
       have KS1:=Lib.hid (KS.out p _ HRx.out hp)
       cases h4:sgn s p with
       | error f=>
        rw [h4] at HST KS1
        have HF:=Lib.hid (show r=.error f from HST.out)
        clear h4 HST
        go_wp2_with fail
        with_reducible refine KS1.out.mono ?_
        rintro e W7 ⟨⟨u,pv,rfl⟩,hp7⟩
        have HW:=Lib.hid (HRx.out.toq hp7 hbw)
        clear hp7
        go_wp2_with fail
        rw [HF.out]
        exact ⟨rfl,⟨_,_,rfl⟩,HW.out⟩
       | ok q4=>
        obtain ⟨kk,j1⟩:=q4
        have hj1:=sgn_ok h4
        have hj2:=blk_sz hj1.2
        have hj3:=blk_le s j1
        rw [h4] at HST KS1
        clear h4
        dsimp only at HST KS1
        have KB5:=Lib.hid (fun (W:World) (h:PsL P base s w j1 W)=>KB.out j1 W h hj1.2)
        have KL5:=Lib.hid (fun (W:World) (h:PsL P base s w (skp s j1) W)=>KL.out (skp s j1) W h hj2)
        generalize skp s j1=j2 at *
        unfold intV at KS1
        go_wp2_with fail
        with_reducible refine KS1.out.mono ?_
        rintro e W7 ⟨⟨v,rfl,rfl⟩,hp7⟩
        have HR7:=Lib.hid (HRx.out.toq hp7 hbw)
        have HS7:=Lib.hid (HSx.out.ps hp7.gr hPb)
        have HA7:=Lib.hid (HAx.out.kept hp7.gr (.inl ⟨P,rfl,hPb⟩))
        have KB6:=Lib.hid (KB5.out W7 HR7.out)
        clear hp7 KS1 KB5
        go_wp2_with fail
        with_reducible refine KB6.out.mono ?_
        rintro e W8 ⟨rfl,hp8⟩
        have HR8:=Lib.hid (HR7.out.toq hp8 hbw)
        have HS8:=Lib.hid (HS7.out.ps hp8.gr hPb)
        have HA8:=Lib.hid (HA7.out.kept hp8.gr (.inl ⟨P,rfl,hPb⟩))
        have KL6:=Lib.hid (KL5.out W8 HR8.out)
        clear hp8 KB6 KL5 HR7 HS7 HA7
        cases h5:lit s j2 with
        | error f=>
         rw [h5] at HST KL6
         have HF:=Lib.hid (show r=.error f from HST.out)
         clear h5 HST
         go_wp2_with fail
         with_reducible refine KL6.out.mono ?_
         rintro e W9 ⟨⟨u,pv,rfl⟩,hp9⟩
         have HW:=Lib.hid (HR8.out.toq hp9 hbw)
         clear hp9
         go_wp2_with fail
         rw [HF.out]
         exact ⟨rfl,⟨_,_,rfl⟩,HW.out⟩
        | ok q5=>
         obtain ⟨tx,j3⟩:=q5
         have hj4:=lit_ok h5
         have hj5:=(lit_bd h5).2
         rw [h5] at HST KL6
         clear h5
         dsimp only at HST KL6
         go_wp2_with fail
         with_reducible refine KL6.out.mono ?_
         rintro e W9 ⟨⟨v,rfl,B0,bc0,rfl,ho9⟩,hp9⟩
         have HR9:=Lib.hid (HR8.out.toq hp9 hbw)
         have HS9:=Lib.hid (HS8.out.ps hp9.gr hPb)
         have HA9:=Lib.hid (HA8.out.kept hp9.gr (.inl ⟨P,rfl,hPb⟩))
         have hb8:base≤W8.heap.size:=Nat.le_trans hbw HR8.out.size
         have hb9:base≤W9.heap.size:=Nat.le_trans hbw HR9.out.size
         have HB9:=Lib.hid (AncAt.mk' (P:=base) (r:=Value.ownBlock (.slice Km m.length cm)) (Sl.of_own ho9) (Apt.own ho9 (by omega) (fun q hq=>(HS8.out.lt q hq).2)))
         obtain ⟨vs,hv1,hv2,hv3⟩:=HS9.out.ex
         have HV2:=Lib.hid hv2
         have HV3:=Lib.hid (fun (o:Obj) (w3:World) (K3:Option Addr) (k3:Nat) (v:Option Addr × Nat × Option Addr × Nat) (t:Tlr) ho hg hB ht=>StepsAt.app (P:=P) (base:=base) hv1 hv3 (o:=o) (w3:=w3) (K3:=K3) (k3:=k3) (v:=v) (t:=t) ho hg hB ht)
         have HTL:=Lib.hid (fun (b:Bool)=>show TlrAt W9 base (Value.ownBlock (.slice Km m.length cm)) (A,ac,B0,bc0) ⟨a,tx,kk,b⟩ from ⟨HA9.out.a,HA9.out.pa,HB9.out.a,HB9.out.pa⟩)
         clear hp9 ho9 KL6 HR8 HS8 HA8 hv1 hv2 hv3 HS9
         cases bv with
         | true=>
          go_wp2_with (at_builtin;refine wpList_app _ _ 44 35 (.agg #[.slice none 0 0,.slice none 0 0,.int .i64 0,.bool false]) 4 64 rfl rfl Tryz.underlying44 info_tlr rfl (by decide) (by decide) rfl (HV2.out.alloc _) rfl (Sl_new W9 (tlrC (A,ac,B0,bc0) ⟨a,tx,kk,false⟩) _ rfl) (by rfl) (by intro u hu;simp only [tlrC,List.mem_cons,List.not_mem_nil,or_false] at hu;rcases hu with rfl | rfl | rfl | rfl <;> rfl) (by omega) (by simp;omega) ?_;intro K3 k3 w3 hown3 hc3 hb3 hg3 hB3)
          have HSn:=Lib.hid (HV3.out _ w3 K3 k3 _ _ hown3 hg3 hB3 (HTL.out false))
          have HRn:=Lib.hid ((HR9.out.bel ((Below.refl _ _).alloc hb9 _) hPb).bel hb3 hPb)
          have HI3:=Lib.hid (((HB9.out.below' ((Below.refl _ _).alloc (Nat.le_refl _) _)).kept hg3 (.inr (.inl rfl))).a)
          have hz3:=HRn.out.size
          have KC3:=Lib.hid (KC.out B0 tx.length bc0 tx w3 HI3.out rfl (by omega))
          clear hown3 hc3 hb3 hg3 hB3 HV2 HV3 HTL HB9 HA9 HI3
          go_wp2_with fail
          with_reducible refine KC3.out.mono ?_
          rintro e W11 ⟨A',c',rfl,ho11,hb11⟩
          have HAf:=Lib.hid (AncAt.mk' (P:=base) (r:=Value.ownBlock (.slice K3 (m++[(⟨a,tx,kk,false⟩:Tlr)]).length k3)) (Sl.of_own ho11) (Apt.own ho11 (by omega) (fun q hq=>(HSn.out.lt q hq).2)))
          have HSf:=Lib.hid (HSn.out.below hb11)
          have HRf:=Lib.hid (HRn.out.bel (hb11.mono (Nat.le_trans hbw hz3)) hPb)
          clear ho11 hb11 KC3 HSn HRn
          go_wp2_with fail
          go_roundw
          case rel=>exact ⟨m++[(⟨a,tx,kk,false⟩:Tlr)],K3,k3,false,tx,A',c',j3,hj4.2,by simp;omega,by omega,by rw [List.length_append];rfl,rfl,rfl,HST,HRf.out,HSf.out,HAf.out⟩
          case measure=>
           have q1:=HRf.out.at
           have q2:=HAT.out
           have q3:=hj1.1
           omega
         | false=>
          go_wp2_with (at_builtin;refine wpList_app _ _ 44 35 (.agg #[.slice none 0 0,.slice none 0 0,.int .i64 0,.bool false]) 4 64 rfl rfl Tryz.underlying44 info_tlr rfl (by decide) (by decide) rfl (HV2.out.alloc _) rfl (Sl_new W9 (tlrC (A,ac,B0,bc0) ⟨a,tx,kk,false⟩) _ rfl) (by rfl) (by intro u hu;simp only [tlrC,List.mem_cons,List.not_mem_nil,or_false] at hu;rcases hu with rfl | rfl | rfl | rfl <;> rfl) (by omega) (by simp;omega) ?_;intro K3 k3 w3 hown3 hc3 hb3 hg3 hB3)
          have HSn:=Lib.hid (HV3.out _ w3 K3 k3 _ _ hown3 hg3 hB3 (HTL.out false))
          have HRn:=Lib.hid ((HR9.out.bel ((Below.refl _ _).alloc hb9 _) hPb).bel hb3 hPb)
          have HI3:=Lib.hid (((HB9.out.below' ((Below.refl _ _).alloc (Nat.le_refl _) _)).kept hg3 (.inr (.inl rfl))).a)
          have hz3:=HRn.out.size
          have KC3:=Lib.hid (KC.out B0 tx.length bc0 tx w3 HI3.out rfl (by omega))
          clear hown3 hc3 hb3 hg3 hB3 HV2 HV3 HTL HB9 HA9 HI3
          go_wp2_with fail
          with_reducible refine KC3.out.mono ?_
          rintro e W11 ⟨A',c',rfl,ho11,hb11⟩
          have HAf:=Lib.hid (AncAt.mk' (P:=base) (r:=Value.ownBlock (.slice K3 (m++[(⟨a,tx,kk,false⟩:Tlr)]).length k3)) (Sl.of_own ho11) (Apt.own ho11 (by omega) (fun q hq=>(HSn.out.lt q hq).2)))
          have HSf:=Lib.hid (HSn.out.below hb11)
          have HRf:=Lib.hid (HRn.out.bel (hb11.mono (Nat.le_trans hbw hz3)) hPb)
          clear ho11 hb11 KC3 HSn HRn
          go_wp2_with fail
          go_roundw
          case rel=>exact ⟨m++[(⟨a,tx,kk,false⟩:Tlr)],K3,k3,false,tx,A',c',j3,hj4.2,by simp;omega,by omega,by rw [List.length_append];rfl,rfl,rfl,HST,HRf.out,HSf.out,HAf.out⟩
          case measure=>
           have q1:=HRf.out.at
           have q2:=HAT.out
           have q3:=hj1.1
           omega
      ·have d2:((bt s p:Int)==61)=false:=by simp;omega
       have HF:=Lib.hid (hb.out.trans (restR_stop (by rintro (q | q);exact h60 q;exact h61 q)))
       clear h60 h61 hb
       generalize bt s p=bb at *
       go_wp2_with fail
       with_reducible refine KN1.out.mono ?_
       rintro e W5 ⟨rfl,hp5⟩
       have HR5:=Lib.hid (HR.out.toq hp5 hbw)
       have HS5:=Lib.hid (HSm.out.ps hp5.gr hPb)
       have KN3:=Lib.hid (KN2.out W5 HR5.out)
       clear hp5 KN1 KN2
       go_wp2_with fail
       with_reducible refine KN3.out.mono ?_
       rintro e W6 ⟨rfl,hp6⟩
       have HR6:=Lib.hid (HR5.out.toq hp6 hbw)
       have HS6:=Lib.hid (HS5.out.ps hp6.gr hPb)
       clear hp6 KN3
       go_wp2_with fail
       go_ret
       rw [HF.out]
       exact ⟨⟨_,rfl,_,_,rfl,HS6.out⟩,HR6.out⟩
end Go.Proofs.YtkhmjidaeliccaaGreatDoor
namespace Go.Proofs.YtkhmjidaeliccaaGreatDoor
open Go.RowKit
structure Spn where
 lo:Int
 hi:Int
 val:Int
def flat3 (ss:List Spn):List Value:=ss.flatMap fun s=>[.int .i64 s.lo,.int .i64 s.hi,.int .i64 s.val]
theorem flat3_len (ss:List Spn):(flat3 ss).length=ss.length*3:=by
 induction ss with
 | nil=>rfl
 | cons r rs ih=>simp only [flat3,List.flatMap_cons,List.length_append,List.length_cons,List.length_nil] at *;omega
theorem flat3_get (ss:List Spn) (k:Nat) (hk:k < ss.length) :
  (flat3 ss)[k*3]?=some (.int .i64 ss[k].lo)∧(flat3 ss)[k*3+1]?=some (.int .i64 ss[k].hi)∧(flat3 ss)[k*3+2]?=some (.int .i64 ss[k].val):=by
 induction ss generalizing k with
 | nil=>simp at hk
 | cons r rs ih=>
  cases k with
  | zero=>simp [flat3]
  | succ k=>
   have:=ih k (by simpa using hk)
   simp only [flat3,List.flatMap_cons,List.cons_append,List.nil_append,List.getElem_cons_succ] at *
   rw [show (k+1)*3=k*3+1+1+1 by omega]
   simpa using this
def Spans (w:World) (A:Option Addr) (ss:List Spn):Prop:=Sl w A (flat3 ss)
theorem Spans.at {w:World} {A:Option Addr} {ss:List Spn} (h:Spans w A ss) {k:Nat} (hk:k < ss.length) :
  ∃b o,A=some ⟨b,o,none⟩∧b < w.heap.size∧∀j,(hj:j < ss.length)→w.cell? ⟨b,o+j*3,none⟩=some (.int .i64 ss[j].lo)∧w.cell? ⟨b,o+j*3+1,none⟩=some (.int .i64 ss[j].hi)∧
   w.cell? ⟨b,o+j*3+2,none⟩=some (.int .i64 ss[j].val):=by
 obtain ⟨b,o,rfl,hc⟩:=Sl.at h (k:=k*3) (by rw [flat3_len];omega)
 refine ⟨b,o,rfl,World.block_lt_of_cell? w _ (hc _ _ (flat3_get ss k hk).1),fun j hj=>⟨?_,?_,?_⟩⟩
 ·exact hc _ _ (flat3_get ss j hj).1
 ·exact hc _ _ (flat3_get ss j hj).2.1
 ·exact hc _ _ (flat3_get ss j hj).2.2
theorem Spans.below {w w':World} {A:Option Addr} {ss:List Spn} (h:Spans w A ss) (hb:Below w.heap.size w w'):Spans w' A ss:=Sl.below h hb
theorem Spans.keep {w w':World} {A:Option Addr} {ss:List Spn} (h:Spans w A ss) (hb:∀p:Addr,p.block < w.heap.size→w'.cell? p=w.cell? p):Spans w' A ss:=Sl.keep h hb
def cls (ss:List Spn) (c:Int):Int:=
 match ss with
 | []=>0
 | s::r=>if s.lo≤c∧c≤s.hi then s.val else cls r c
def Asc (ss:List Spn):Prop:=∀i j,(hi:i < ss.length)→(hj:j < ss.length)→(ss[i].lo≤ss[i].hi)∧(i < j→ss[i].hi < ss[j].lo)
theorem cls_at (ss:List Spn) (c:Int) (i:Nat) (hi:i < ss.length) (h:Asc ss) (h1:ss[i].lo≤c) (h2:c≤ss[i].hi):cls ss c=ss[i].val:=by
 induction ss generalizing i with
 | nil=>simp at hi
 | cons s r ih=>
  cases i with
  | zero=>simp only [List.getElem_cons_zero] at *;unfold cls;rw [if_pos ⟨h1,h2⟩]
  | succ i=>
   have hlt:=(h 0 (i+1) (by simp) hi).2 (by omega)
   simp only [List.getElem_cons_zero,List.getElem_cons_succ] at *
   unfold cls
   rw [if_neg (by omega)]
   refine ih i (by simpa using hi) (fun a b ha hb=>?_) h1 h2
   have:=h (a+1) (b+1) (by simpa using ha) (by simpa using hb)
   simp only [List.getElem_cons_succ] at this
   exact ⟨this.1,fun hab=>this.2 (by omega)⟩
theorem cls_none (ss:List Spn) (c:Int) (h:∀i,(hi:i < ss.length)→¬(ss[i].lo≤c∧c≤ss[i].hi)):cls ss c=0:=by
 induction ss with
 | nil=>rfl
 | cons s r ih=>
  unfold cls
  have h0:=h 0 (by simp)
  simp only [List.getElem_cons_zero] at h0
  rw [if_neg h0]
  exact ih fun i hi=>by
   have:=h (i+1) (by simpa using hi)
   simpa using this
theorem Asc.nil:Asc []:=fun i _ hi=>by simp at hi
end Go.Proofs.YtkhmjidaeliccaaGreatDoor
