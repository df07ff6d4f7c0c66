/- Texts that are merged into one file: PaLit, PaPre, PaBack, PaOk. -/
import Derived.Test.YtkhmjidaeliccaaGreatDoorA04
import Derived.Test.YtkhmjidaeliccaaGreatDoorA22
import Derived.Laws.BytesArg
set_option maxRecDepth 100000
set_option maxHeartbeats 51200000
namespace Go.Proofs.YtkhmjidaeliccaaGreatDoor
open Go.RowKit Tl Pa
theorem litN_more {s:ByteArray}:∀(n m:Nat) (a:List Int) (i:Nat),s.size - i≤n→s.size - i≤m→litN s n a i=litN s m a i
 | 0,0,a,i,_,_=>rfl
 | 0,m+1,a,i,h,_=>by
  have e:litN s (m+1) a i=.ok (a,i):=by
   unfold litN
   rw [if_neg (by rw [bt_end (by omega)];decide)]
  rw [e];rfl
 | n+1,0,a,i,_,h=>by
  have e:litN s (n+1) a i=.ok (a,i):=by
   unfold litN
   rw [if_neg (by rw [bt_end (by omega)];decide)]
  rw [e];rfl
 | n+1,m+1,a,i,h1,h2=>by
  unfold litN
  by_cases h0:bt s i=32
  ·rw [if_pos h0,if_pos h0]
   cases hc:Pa.code s (i+1) with
   | error e=>rfl
   | ok q=>
    obtain ⟨c,j⟩:=q
    have:=code_ok hc
    exact litN_more n m _ j (by omega) (by omega)
  ·rw [if_neg h0,if_neg h0]
def litR (s:ByteArray) (a:List Int) (i:Nat):Rd (List Int):=litN s (s.size - i) a i
theorem litR_stop {s:ByteArray} {a:List Int} {i:Nat} (h:¬bt s i=32):litR s a i=.ok (a,i):=by
 unfold litR
 cases s.size - i with
 | zero=>rfl
 | succ n=>unfold litN;rw [if_neg h]
theorem litR_step {s:ByteArray} {a:List Int} {i:Nat} (h:bt s i=32):litR s a i=match Pa.code s (i+1) with | .error e=>.error e | .ok (c,j)=>litR s (a++[c]) j:=by
 have hin:=bt_in (s:=s) (i:=i) (by omega)
 unfold litR
 rw [show s.size - i=(s.size - (i+1))+1 by omega]
 conv=>lhs;unfold litN
 rw [if_pos h]
 cases hc:Pa.code s (i+1) with
 | error e=>rfl
 | ok q=>
  obtain ⟨c,j⟩:=q
  have:=code_ok hc
  exact litN_more _ _ _ j (by omega) (Nat.le_refl _)
theorem lit_eq (s:ByteArray) (i:Nat):lit s i=match wrd s [40] i with
  | .error e=>.error e
  | .ok (_,i1)=>match Pa.code s i1 with
   | .error e=>.error e
   | .ok (c,i2)=>match litR s [c] i2 with
    | .error e=>.error e
    | .ok (l,i3)=>match wrd s [41] i3 with
     | .error e=>.error e
     | .ok (_,i4)=>.ok (l,skp s i4):=by
 unfold lit litR
 cases wrd s [40] i with
 | error e=>rfl
 | ok q=>
  cases Pa.code s q.2 with
  | error e=>rfl
  | ok q2=>
   cases litN s (s.size - q2.2) [q2.1] q2.2 with
   | error e=>rfl
   | ok q3=>
    cases wrd s [41] q3.2 <;> rfl
def ownV (w:World) (l:List Int) (v:Value) (w':World):Prop:=∃A c,v=.slice A l.length c∧w'.ownsRow w.heap.size 3 1 (.slice A l.length c) l.length (l.map (Value.int .i64))
section
variable {P i j n m:Nat} {s:ByteArray} {w w' w'':World}
theorem PsTo.low (h:PsTo P s w j w') (hP:P < w.heap.size) (hb:Below w.heap.size w' w''):PsTo P s w j w'':=⟨h.box.below hb hP,⟨hb.os.trans h.gr.os,hb.tape.trans h.gr.tape,hb.output.trans h.gr.output,Nat.le_trans h.gr.size hb.size,fun k hk hne=>(hb.block k hk).trans (h.gr.block k hk hne)⟩⟩
theorem own_ps {base size:Nat} {e:TypeId} {v:Value} {xs:List Value} (h:w.ownsRow base e size v n xs) (hg:w.grownBy w' (some P)) (hP:P < base):w'.ownsRow base e size v n xs:=by
 refine h.kept hg ?_
 cases hb:v.ownBlock with
 | none=>exact .inl rfl
 | some q=>
  right
  intro e
  have:=(h.lt q hb).1
  injection e with e
  omega
end
theorem plit_any (P:Nat) (s:ByteArray) (i:Nat) (w:World) (hP:PsB w P s i) (hi:i≤s.size) (hs:s.size≤65536) :
  Calls Tryz.prog 115 #[.pointer (some ⟨P,0,none⟩)] w (RdR P s (ownV w) (lit s i) w):=by
 have HP:=Lib.hid (hP.here)
 have hPl:P < w.heap.size:=hP.lt
 have KN:=Lib.hid (fun j (W:World) (h:PsTo P s w j W) (hj:j≤s.size)=>next_any P s j W h.box hj)
 have KE:=Lib.hid (expect_any P s ⟨#[40]⟩ [40] i w hP hi (by omega) (wrd1 40 (by decide) _ rfl (by decide)) (by decide))
 have KG:=Lib.hid (fun j (W:World) (h:PsTo P s w j W) (hj:j≤s.size)=>expect_any P s ⟨#[41]⟩ [41] j W h.box hj (by omega) (wrd1 41 (by decide) _ rfl (by decide)) (by decide))
 have KC:=Lib.hid (fun j (W:World) (h:PsTo P s w j W) (hj:j≤s.size)=>pcode_any P s j W h.box hj (by omega))
 have KB:=Lib.hid (fun j (W:World) (h:PsTo P s w j W) (hj:j≤s.size)=>blanks_any P s j W h.box hj (by omega))
 unfold RdR at KE KG KC
 obtain ⟨r,hr⟩:∃r,lit s i=r:=⟨_,rfl⟩
 have HR0:=Lib.hid (hr.symm.trans (lit_eq s i))
 rw [hr]
 clear hP hr
 cases h1:wrd s [40] i with
 | error f=>
  rw [h1] at HR0 KE
  have HF:=Lib.hid (show r=.error f from HR0.out)
  clear h1 HR0
  go_enter Tryz.func115,Tryz.ntmps115
  go_wp2_with fail
  with_reducible refine KE.out.mono ?_
  rintro e W1 ⟨⟨u,pv,rfl⟩,hp1⟩
  have HW:=Lib.hid hp1
  clear hp1
  go_wp2_with fail
  rw [HF.out]
  exact ⟨rfl,⟨_,_,rfl⟩,HW.out⟩
 | ok q1=>
 obtain ⟨u1,i1⟩:=q1
 have hi1:=(wrd_ok (by simp) h1).2 (by simp)
 rw [h1] at HR0 KE
 clear h1
 dsimp only at HR0 KE
 cases h2:Pa.code s i1 with
 | error f=>
  have KC1:=Lib.hid (fun (W:World) (h:PsTo P s w i1 W)=>KC.out i1 W h hi1)
  rw [h2] at HR0 KC1
  have HF:=Lib.hid (show r=.error f from HR0.out)
  clear h2 HR0
  go_enter Tryz.func115,Tryz.ntmps115
  go_wp2_with fail
  with_reducible refine KE.out.mono ?_
  rintro e W1 ⟨⟨v,rfl,rfl⟩,hp1⟩
  have HW:=Lib.hid hp1
  have KC2:=Lib.hid (KC1.out W1 hp1)
  clear hp1 KC1 KC KE
  go_wp2_with fail
  with_reducible refine KC2.out.mono ?_
  rintro e W2 ⟨⟨u,pv,rfl⟩,hp2⟩
  have HW2:=Lib.hid (HW.out.trans hp2)
  clear hp2
  go_wp2_with fail
  rw [HF.out]
  exact ⟨rfl,⟨_,_,rfl⟩,HW2.out⟩
 | ok q2=>
 obtain ⟨z0,i2⟩:=q2
 have hi2:=code_ok h2
 have KC1:=Lib.hid (fun (W:World) (h:PsTo P s w i1 W)=>KC.out i1 W h hi1)
 rw [h2] at HR0 KC1
 clear h2
 dsimp only at HR0 KC1
 go_enter Tryz.func115,Tryz.ntmps115
 go_wp2_with fail
 with_reducible refine KE.out.mono ?_
 rintro e W1 ⟨⟨v,rfl,rfl⟩,hp1⟩
 have HW:=Lib.hid hp1
 have KC2:=Lib.hid (KC1.out W1 hp1)
 clear hp1 KC1 KE
 go_wp2_with fail
 with_reducible refine KC2.out.mono ?_
 rintro e W2 ⟨⟨v,rfl,rfl⟩,hp2⟩
 have HW2:=Lib.hid (HW.out.trans hp2)
 have hz2:=HW2.out.gr.size
 clear hp2 KC2
 go_wp2_with fail
 go_loopw [3] (fun u wr=>∃(l:List Int) (A:Option Addr) (c p:Nat),l.length≤p∧p≤s.size∧u=.slice A l.length c∧Hid (litR s l p=litR s [z0] i2)∧wr.ownsRow w.heap.size 3 1 (.slice A l.length c) l.length (l.map (Value.int .i64))∧PsTo P s w p wr) (fun _ wr=>s.size - psAt P wr)
 case atStart=>
  refine ⟨[z0],_,_,i2,by simp;omega,hi2.2,rfl,Lib.hid rfl,own_new [.int .i64 z0] 3 1 1 w.heap.size rfl rfl hz2 (by decide),HW2.out.below ((Below.refl _ _).alloc (Nat.le_refl _) _)⟩
 case round=>
  obtain ⟨l,A,c,p,hlp,hp,rfl,hb,ho,hps⟩:=hrel
  have HR:=Lib.hid hps
  have HO:=Lib.hid ho
  have KN1:=Lib.hid (KN.out p _ hps hp)
  clear hps ho
  by_cases h32:bt s p=32
  ·have d1:((bt s p:Int)==32)=true:=by simp;omega
   have hin:=bt_in (s:=s) (i:=p) (by omega)
   have HST:=Lib.hid (hb.out.symm.trans (litR_step h32))
   have KC1:=Lib.hid (fun (W:World) (h:PsTo P s w (p+1) W)=>KC.out (p+1) W h hin)
   clear h32 hb
   generalize bt s p=b at *
   cases h3:Pa.code s (p+1) with
   | error f=>
    rw [h3] at HST KC1
    have HF:=Lib.hid (show r=.error f from by rw [HR0.out,HST.out])
    clear h3 HST HR0
    go_wp2_with fail
    with_reducible refine KN1.out.mono ?_
    rintro e W3 ⟨rfl,hp3⟩
    have HW3:=Lib.hid (HR.out.trans hp3)
    have c1:=HW3.out.c1
    have f1:=HW3.out.f1
    have HW4:=Lib.hid (show PsTo P s w (p+1) (W3.setCell ⟨P,1,none⟩ (.int .i64 ((p:Int)+1))) from HW3.out.go (p+1))
    have KC3:=Lib.hid (KC1.out _ HW4.out)
    clear hp3 KN1 KC1
    go_wp2_with fail
    with_reducible refine KC3.out.mono ?_
    rintro e W5 ⟨⟨u,pv,rfl⟩,hp5⟩
    have HW5:=Lib.hid (HW4.out.trans hp5)
    clear hp5
    go_wp2_with fail
    rw [HF.out]
    exact ⟨rfl,⟨_,_,rfl⟩,HW5.out⟩
   | ok q3=>
    obtain ⟨z,j⟩:=q3
    have hj:=code_ok h3
    rw [h3] at HST KC1
    have HN:=Lib.hid (show litR s (l++[z]) j=litR s [z0] i2 from HST.out.symm)
    clear h3 HST
    dsimp only at KC1
    go_wp2_with fail
    with_reducible refine KN1.out.mono ?_
    rintro e W3 ⟨rfl,hp3⟩
    have HW3:=Lib.hid (HR.out.trans hp3)
    have c1:=HW3.out.c1
    have f1:=HW3.out.f1
    have HW4:=Lib.hid (show PsTo P s w (p+1) (W3.setCell ⟨P,1,none⟩ (.int .i64 ((p:Int)+1))) from HW3.out.go (p+1))
    have KC3:=Lib.hid (KC1.out _ HW4.out)
    have HO3:=Lib.hid (own_ps HO.out hp3.gr hPl)
    have HO4:=Lib.hid (own_ps HO3.out (grown_set W3 ⟨P,1,none⟩ (.int .i64 ((p:Int)+1))) hPl)
    clear hp3 KN1 KC1
    go_wp2_with fail
    with_reducible refine KC3.out.mono ?_
    rintro e W5 ⟨⟨v,rfl,rfl⟩,hp5⟩
    have HW5:=Lib.hid (HW4.out.trans hp5)
    have hz5:=HW5.out.gr.size
    have HO5:=Lib.hid (own_ps HO4.out hp5.gr hPl)
    clear hp5 HO HO3 HO4 KC3 c1 f1
    go_wp2_with (at_builtin;refine wpList_app _ _ 33 3 (.int .i64 0) 1 8 rfl rfl Tryz.underlying33 info_int rfl (by decide) (by decide) rfl (HO5.out.alloc _) rfl (Ints_new W5 [z] _ rfl) (by simp) (oneCell_ints _) (by omega) (by simp;omega) ?_;intro K3 k3 w3 hown3 hc3 hb3 hg3 hB3)
    have HO6:=Lib.hid hown3
    have HW6:=Lib.hid ((HW5.out.below ((Below.refl _ _).alloc (Nat.le_refl _) _)).low hPl hb3)
    clear hown3 hc3 hb3 hg3 hB3
    go_wp2_with fail
    go_roundw
    case rel=>exact ⟨l++[z],K3,k3,j,by simp;omega,hj.2,by rw [List.length_append];rfl,HN,by rw [List.length_append,List.map_append];exact HO6.out,HW6.out⟩
    case measure=>
     rw [HW6.out.at,HR.out.at]
     omega
  ·have d1:((bt s p:Int)==32)=false:=by simp;omega
   have HQ:=Lib.hid (show litR s [z0] i2=.ok (l,p) from by rw [←hb.out,litR_stop h32])
   have KG1:=Lib.hid (fun (W:World) (h:PsTo P s w p W)=>KG.out p W h hp)
   clear h32 hb
   generalize bt s p=b at *
   cases h4:wrd s [41] p with
   | error f=>
    have HF:=Lib.hid (show r=.error f from by rw [HR0.out,HQ.out];dsimp only;rw [h4])
    rw [h4] at KG1
    clear h4 HQ HR0
    go_wp2_with fail
    with_reducible refine KN1.out.mono ?_
    rintro e W3 ⟨rfl,hp3⟩
    have HW3:=Lib.hid (HR.out.trans hp3)
    have KG2:=Lib.hid (KG1.out W3 HW3.out)
    clear hp3 KN1 KG1
    go_wp2_with fail
    with_reducible refine KG2.out.mono ?_
    rintro e W4 ⟨⟨u,pv,rfl⟩,hp4⟩
    have HW4:=Lib.hid (HW3.out.trans hp4)
    clear hp4
    go_wp2_with fail
    rw [HF.out]
    exact ⟨rfl,⟨_,_,rfl⟩,HW4.out⟩
   | ok q4=>
    obtain ⟨u4,i4⟩:=q4
    have hi4:=(wrd_ok (by simp) h4).2 (by simp)
    have HF:=Lib.hid (show r=.ok (l,skp s i4) from by rw [HR0.out,HQ.out];dsimp only;rw [h4])
    rw [h4] at KG1
    dsimp only at KG1
    clear h4 HQ HR0
    go_wp2_with fail
    with_reducible refine KN1.out.mono ?_
    rintro e W3 ⟨rfl,hp3⟩
    have HW3:=Lib.hid (HR.out.trans hp3)
    have KG2:=Lib.hid (KG1.out W3 HW3.out)
    have HO3:=Lib.hid (own_ps HO.out hp3.gr hPl)
    clear hp3 KN1 KG1
    go_wp2_with fail
    with_reducible refine KG2.out.mono ?_
    rintro e W4 ⟨⟨v,rfl,rfl⟩,hp4⟩
    have HW4:=Lib.hid (HW3.out.trans hp4)
    have HO4:=Lib.hid (own_ps HO3.out hp4.gr hPl)
    have KB2:=Lib.hid (KB.out i4 W4 HW4.out hi4)
    clear hp4 KG2
    go_wp2_with fail
    with_reducible refine KB2.out.mono ?_
    rintro e W5 ⟨rfl,hp5⟩
    have HW5:=Lib.hid (HW4.out.trans hp5)
    have HO5:=Lib.hid (own_ps HO4.out hp5.gr hPl)
    clear hp5 KB2
    go_wp2_with fail
    go_ret
    rw [HF.out]
    exact ⟨⟨_,rfl,_,_,rfl,HO5.out⟩,HW5.out⟩
end Go.Proofs.YtkhmjidaeliccaaGreatDoor
namespace Go.Proofs.YtkhmjidaeliccaaGreatDoor.Pa
open Go.RowKit Tl
structure Pre (s s':ByteArray) (e:Nat):Prop where
 sz:s'.size=e
 le:e≤s.size
 eq:∀i,i < e→bt s' i=bt s i
section
variable {s s':ByteArray} {e:Nat}
theorem Pre.z (h:Pre s s' e) {i:Nat} (hi:e≤i):bt s' i=0:=bt_end (by rw [h.sz];omega)
theorem wrd_err {s:ByteArray} {f:Nat}:∀{l:List Nat} {i:Nat},wrd s l i=.error f→i≤f
 | [],i,h=>by cases h
 | c::r,i,h=>by
  unfold wrd at h
  split at h
  ·have:=wrd_err h;omega
  ·injection h with h;omega
theorem four_err {s:ByteArray} {f:Nat}:∀{n:Nat} {c:Int} {i:Nat},four s n c i=.error f→i≤f
 | 0,c,i,h=>by cases h
 | n+1,c,i,h=>by
  unfold four at h
  split at h
  ·injection h with h;omega
  ·have:=four_err h;omega
theorem code_err {s:ByteArray} {i f:Nat} (h:code s i=.error f):i≤f:=by
 unfold code at h
 split at h
 ·next h1=>injection h with h;subst h;exact four_err h1
 ·cases h
theorem litN_err {s:ByteArray} {f:Nat}:∀{n:Nat} {a:List Int} {i:Nat},litN s n a i=.error f→i < f
 | 0,a,i,h=>by cases h
 | n+1,a,i,h=>by
  unfold litN at h
  split at h
  ·split at h
   ·next h1=>injection h with h;subst h;have:=code_err h1;omega
   ·next h1=>have g:=code_ok h1;have:=litN_err h;omega
  ·cases h
theorem lit_err {s:ByteArray} {i f:Nat} (h:lit s i=.error f):i≤f:=by
 unfold lit at h
 split at h
 ·next h1=>injection h with h;subst h;exact wrd_err h1
 ·next h1=>
  have g1:=(wrd_ok (by simp) h1).1
  simp at g1
  split at h
  ·next h2=>injection h with h;subst h;have:=code_err h2;omega
  ·next h2=>
   have g2:=code_ok h2
   split at h
   ·next h3=>injection h with h;subst h;have:=litN_err h3;omega
   ·next h3=>
    have g3:=litN_ok g2.2 h3
    split at h
    ·next h4=>injection h with h;subst h;have:=wrd_err h4;omega
    ·cases h
theorem sgn_err {s:ByteArray} {i f:Nat} (h:sgn s i=.error f):f=i∧¬(bt s i=60∨bt s i=61):=by
 unfold sgn at h
 split at h
 ·cases h
 ·next h0=>
  split at h
  ·next h1=>
   injection h with h;subst h
   unfold wrd at h1
   split at h1
   ·unfold wrd at h1;cases h1
   ·next h2=>injection h1 with h1;exact ⟨h1.symm,by omega⟩
  ·cases h
theorem stpN_err {s:ByteArray} {f:Nat}:∀{n:Nat} {a:List Int} {b:Bool} {l:List Tlr} {i:Nat},i≤s.size→stpN s n a b l i=.error f→i≤f∧(bt s i=60∨bt s i=61→i < f)
 | 0,a,b,l,i,_,h=>by cases h
 | n+1,a,b,l,i,hi,h=>by
  unfold stpN at h
  split at h
  ·next h1=>
   injection h with h;subst h
   obtain ⟨g1,g2⟩:=sgn_err h1
   exact ⟨by omega,fun g=>absurd g g2⟩
  ·next j1 h1=>
   have g1:=sgn_ok h1
   have g2:=blk_le s j1
   split at h
   ·next h2=>injection h with h;subst h;have:=lit_err h2;omega
   ·next h2=>
    have g3:=lit_ok h2
    split at h
    ·have g4:=(stpN_err g3.2 h).1
     omega
    ·cases h
theorem wrd_preE (h:Pre s s' e):∀{l:List Nat} {i:Nat},(∀c ∈ l,c≠0)→wrd s l i=.error e→wrd s' l i=.error e
 | [],i,_,g=>by cases g
 | c::r,i,hc,g=>by
  unfold wrd at g ⊢
  split at g
  ·next h1=>
   have:=wrd_err g
   rw [h.eq i (by omega),if_pos h1]
   exact wrd_preE h (fun x hx=>hc x (List.mem_cons_of_mem _ hx)) g
  ·injection g with g
   rw [h.z (by omega),if_neg (fun q=>hc c (by simp) q.symm),g]
theorem wrd_preO (h:Pre s s' e):∀{l:List Nat} {i j:Nat} {u:Unit},(∀c ∈ l,c≠0)→wrd s l i=.ok (u,j)→j≤e→wrd s' l i=.ok (u,j)
 | [],i,j,u,_,g,_=>g
 | c::r,i,j,u,hc,g,hj=>by
  unfold wrd at g ⊢
  split at g
  ·next h1=>
   have:=(wrd_ok (fun x hx=>hc x (List.mem_cons_of_mem _ hx)) g).1
   rw [h.eq i (by omega),if_pos h1]
   exact wrd_preO h (fun x hx=>hc x (List.mem_cons_of_mem _ hx)) g hj
  ·cases g
theorem blk_pre (h:Pre s s' e):∀(n i:Nat),n=s.size - i→skp s i≤e→skp s' i=skp s i:=by
 intro n
 induction n with
 | zero=>
  intro i hn hj
  have hs:¬(bt s i=32∨bt s i=10):=by rw [bt_end (by omega)];decide
  rw [blk_stop hs] at hj ⊢
  have:=h.le
  refine blk_stop ?_
  rw [h.z (by omega)];decide
 | succ n ih=>
  intro i hn hj
  by_cases hb:bt s i=32∨bt s i=10
  ·rw [blk_step hb] at hj ⊢
   have:=blk_le s (i+1)
   rw [blk_step (by rw [h.eq i (by omega)];exact hb)]
   exact ih (i+1) (by omega) hj
  ·rw [blk_stop hb] at hj ⊢
   refine blk_stop ?_
   by_cases hi:i < e
   ·rw [h.eq i hi];exact hb
   ·rw [h.z (by omega)];decide
theorem four_preE (h:Pre s s' e):∀{n:Nat} {c:Int} {i:Nat},four s n c i=.error e→four s' n c i=.error e
 | 0,c,i,g=>by cases g
 | n+1,c,i,g=>by
  unfold four at g ⊢
  split at g
  ·injection g with g
   rw [h.z (by omega),if_pos (by decide),g]
  ·next h1=>
   have:=four_err g
   rw [h.eq i (by omega),if_neg h1]
   exact four_preE h g
theorem four_preO (h:Pre s s' e):∀{n:Nat} {c d:Int} {i j:Nat},four s n c i=.ok (d,j)→j≤e→four s' n c i=.ok (d,j)
 | 0,c,d,i,j,g,_=>g
 | n+1,c,d,i,j,g,hj=>by
  unfold four at g ⊢
  split at g
  ·cases g
  ·next h1=>
   have:=(four_ok g).1
   rw [h.eq i (by omega),if_neg h1]
   exact four_preO h g hj
theorem more_le (s:ByteArray) (c:Int) (i:Nat):i≤(more s c i).2:=by
 unfold more
 by_cases hi:i≤s.size
 ·exact (moreN_ok hi).1
 ·rw [show s.size - i=0 by omega];exact Nat.le_refl _
theorem more_pre (h:Pre s s' e):∀(n:Nat) (c:Int) (i:Nat),n=s.size - i→(more s c i).2≤e→more s' c i=more s c i:=by
 intro n
 induction n with
 | zero=>
  intro c i hn hj
  have hs:¬(4096≤c∧0≤dg (bt s i)∧16*c+dg (bt s i)≤1114111):=by rw [bt_end (by omega)];rintro ⟨_,q,_⟩;exact absurd q (by decide)
  rw [more_stop hs] at hj ⊢
  have:=h.le
  dsimp only at hj
  refine more_stop ?_
  rw [h.z (by omega)];rintro ⟨_,q,_⟩;exact absurd q (by decide)
 | succ n ih=>
  intro c i hn hj
  by_cases hb:4096≤c∧0≤dg (bt s i)∧16*c+dg (bt s i)≤1114111
  ·rw [more_step hb] at hj ⊢
   have:=more_le s (16*c+dg (bt s i)) (i+1)
   have hi:=h.eq i (by omega)
   rw [more_step (by rw [hi];exact hb),hi]
   exact ih _ (i+1) (by omega) hj
  ·rw [more_stop hb] at hj ⊢
   dsimp only at hj
   refine more_stop ?_
   by_cases hi:i < e
   ·rw [h.eq i hi];exact hb
   ·rw [h.z (by omega)];rintro ⟨_,q,_⟩;exact absurd q (by decide)
theorem code_preE (h:Pre s s' e) {i:Nat} (g:code s i=.error e):code s' i=.error e:=by
 unfold code at g ⊢
 split at g
 ·next h1=>injection g with g;subst g;rw [four_preE h h1]
 ·cases g
theorem code_preO (h:Pre s s' e) {i j:Nat} {c:Int} (g:code s i=.ok (c,j)) (hj:j≤e):code s' i=.ok (c,j):=by
 unfold code at g ⊢
 split at g
 ·cases g
 ·next c' k h1=>
  injection g with g
  have g1:=more_le s c' k
  rw [g] at g1
  dsimp only at g1
  rw [four_preO h h1 (by omega)]
  have:=more_pre h _ c' k rfl (by rw [g];exact hj)
  dsimp only
  rw [this,g]
theorem litN_preE (h:Pre s s' e):∀{n m:Nat} {a:List Int} {i:Nat},e - i≤m→litN s n a i=.error e→litN s' m a i=.error e
 | 0,m,a,i,_,g=>by cases g
 | n+1,m,a,i,hm,g=>by
  have hlt:=litN_err g
  obtain ⟨m,rfl⟩:∃m',m=m'+1:=⟨m - 1,by omega⟩
  unfold litN at g ⊢
  rw [h.eq i hlt]
  split at g
  ·next h0=>
   rw [if_pos h0]
   split at g
   ·next h1=>injection g with g;subst g;rw [code_preE h h1]
   ·next c j h1=>
    have g1:=litN_err g
    have g2:=code_ok h1
    rw [code_preO h h1 (by omega)]
    exact litN_preE h (by omega) g
  ·cases g
theorem litN_preO (h:Pre s s' e):∀{n m:Nat} {a l:List Int} {i j:Nat},s.size - i≤n→e - i≤m→litN s n a i=.ok (l,j)→j≤e→litN s' m a i=.ok (l,j)
 | 0,m,a,l,i,j,hn,hm,g,hj=>by
  have g':(Except.ok (a,i):Rd (List Int))=.ok (l,j):=g
  cases m with
  | zero=>exact g'
  | succ m=>
   unfold litN
   have:=h.le
   rw [h.z (by omega),if_neg (by decide)]
   exact g'
 | n+1,m,a,l,i,j,hn,hm,g,hj=>by
  unfold litN at g
  split at g
  ·next h0=>
   split at g
   ·cases g
   ·next c k h1=>
    have g2:=code_ok h1
    have g3:=litN_ok g2.2 g
    obtain ⟨m,rfl⟩:∃m',m=m'+1:=⟨m - 1,by omega⟩
    unfold litN
    rw [h.eq i (by omega),if_pos h0,code_preO h h1 (by omega)]
    exact litN_preO h (by omega) (by omega) g hj
  ·next h0=>
   have g':(Except.ok (a,i):Rd (List Int))=.ok (l,j):=g
   cases m with
   | zero=>exact g'
   | succ m=>
    unfold litN
    by_cases hi:i < e
    ·rw [h.eq i hi,if_neg h0];exact g'
    ·rw [h.z (by omega),if_neg (by decide)];exact g'
theorem lit_preE (h:Pre s s' e) {i:Nat} (g:lit s i=.error e):lit s' i=.error e:=by
 unfold lit at g ⊢
 split at g
 ·next h1=>injection g with g;subst g;rw [wrd_preE h (by simp) h1]
 ·next u i1 h1=>
  split at g
  ·next h2=>
   injection g with g;subst g
   rw [wrd_preO h (by simp) h1 (code_err h2)]
   dsimp only
   rw [code_preE h h2]
  ·next c i2 h2=>
   have g2:=code_ok h2
   split at g
   ·next h3=>
    injection g with g;subst g
    have g3:=litN_err h3
    rw [wrd_preO h (by simp) h1 (by omega)]
    dsimp only
    rw [code_preO h h2 (by omega)]
    dsimp only
    rw [litN_preE h (by rw [h.sz];exact Nat.le_refl _) h3]
   ·next l i3 h3=>
    have g3:=litN_ok g2.2 h3
    split at g
    ·next h4=>
     injection g with g;subst g
     have g4:=wrd_err h4
     rw [wrd_preO h (by simp) h1 (by omega)]
     dsimp only
     rw [code_preO h h2 (by omega)]
     dsimp only
     rw [litN_preO h (Nat.le_refl _) (by rw [h.sz];exact Nat.le_refl _) h3 g4]
     dsimp only
     rw [wrd_preE h (by simp) h4]
    ·cases g
theorem lit_preO (h:Pre s s' e) {i j:Nat} {l:List Int} (g:lit s i=.ok (l,j)) (hj:j≤e):lit s' i=.ok (l,j):=by
 unfold lit at g ⊢
 split at g
 ·cases g
 ·next u i1 h1=>
  split at g
  ·cases g
  ·next c i2 h2=>
   have g2:=code_ok h2
   split at g
   ·cases g
   ·next l i3 h3=>
    have g3:=litN_ok g2.2 h3
    split at g
    ·cases g
    ·next u4 i4 h4=>
     injection g with g;injection g with ga gb
     have g4:=(wrd_ok (by simp) h4).1
     simp at g4
     have g5:=blk_le s i4
     rw [wrd_preO h (by simp) h1 (by omega)]
     dsimp only
     rw [code_preO h h2 (by omega)]
     dsimp only
     rw [litN_preO h (Nat.le_refl _) (by rw [h.sz];exact Nat.le_refl _) h3 (by omega)]
     dsimp only
     rw [wrd_preO h (by simp) h4 (by omega)]
     dsimp only
     rw [blk_pre h _ i4 rfl (by omega),ga,gb]
theorem sgnN_pre (h:Pre s s' e):∀{n:Nat} {l:Int} {i:Nat},i≤s.size→(sgnN s n l i).2≤e→sgnN s' n l i=sgnN s n l i
 | 0,l,i,_,_=>rfl
 | n+1,l,i,hi,hj=>by
  unfold sgnN at hj ⊢
  split at hj
  ·next h0=>
   have hin:=bt_in (s:=s) (i:=i) (by omega)
   have g1:=(sgnN_ok (n:=n) (l:=l+1) (i:=i+1) hin).1
   rw [h.eq i (by omega),if_pos h0,if_pos h0]
   exact sgnN_pre h hin hj
  ·next h0=>
   rw [if_neg h0]
   by_cases hi2:i < e
   ·rw [h.eq i hi2,if_neg h0]
   ·rw [h.z (by omega),if_neg (by decide)]
theorem sgn_preE (h:Pre s s' e) {i:Nat} (g:sgn s i=.error e):sgn s' i=.error e:=by
 obtain ⟨g1,_⟩:=sgn_err g
 subst g1
 unfold sgn wrd
 rw [h.z (Nat.le_refl _),if_neg (by decide),if_neg (by decide)]
theorem sgn_preO (h:Pre s s' e) {i j:Nat} {k:Int} (g:sgn s i=.ok (k,j)) (hj:j≤e):sgn s' i=.ok (k,j):=by
 have hij:=(sgn_ok g).1
 unfold sgn at g ⊢
 rw [h.eq i (by omega)]
 split at g
 ·next h0=>rw [if_pos h0];exact g
 ·next h0=>
  rw [if_neg h0]
  split at g
  ·cases g
  ·next u j1 h1=>
   injection g with g
   have g1:=wrd_ok (by simp) h1
   have g2:=g1.2 (by simp)
   have g3:=(sgnN_ok (n:=2) (l:=1) g2).1
   rw [g] at g3
   dsimp only at g3
   rw [wrd_preO h (by simp) h1 (by omega)]
   dsimp only
   rw [sgnN_pre h g2 (by rw [g];exact hj),g]
theorem stpN_preE (h:Pre s s' e):∀{n m:Nat} {a:List Int} {b:Bool} {l:List Tlr} {i:Nat},i≤s.size→e+1 - i≤m→stpN s n a b l i=.error e→stpN s' m a b l i=.error e
 | 0,m,a,b,l,i,_,_,g=>by cases g
 | n+1,m,a,b,l,i,hi,hm,g=>by
  have hlt:=(stpN_err hi g).1
  obtain ⟨m,rfl⟩:∃m',m=m'+1:=⟨m - 1,by omega⟩
  unfold stpN at g ⊢
  split at g
  ·next h1=>injection g with g;subst g;rw [sgn_preE h h1]
  ·next k j1 h1=>
   have g1:=sgn_ok h1
   have g2:=blk_le s j1
   split at g
   ·next h2=>
    injection g with g;subst g
    have g3:=lit_err h2
    rw [sgn_preO h h1 (by omega)]
    dsimp only
    rw [blk_pre h _ j1 rfl (by omega),lit_preE h h2]
   ·next t j2 h2=>
    have g3:=lit_ok h2
    split at g
    ·next h3=>
     have g4:=stpN_err g3.2 g
     have g5:=g4.2 h3
     rw [sgn_preO h h1 (by omega)]
     dsimp only
     rw [blk_pre h _ j1 rfl (by omega),lit_preO h h2 (by omega)]
     dsimp only
     rw [h.eq j2 g5,if_pos h3]
     exact stpN_preE h g3.2 (by omega) g
    ·cases g
theorem stpN_preO (h:Pre s s' e):∀{n m:Nat} {a:List Int} {b:Bool} {l l':List Tlr} {i j:Nat},i≤s.size→s.size+1 - i≤n→e+1 - i≤m→stpN s n a b l i=.ok (l',j)→j≤e→stpN s' m a b l i=.ok (l',j)
 | 0,m,a,b,l,l',i,j,hi,hn,_,g,_=>by omega
 | n+1,m,a,b,l,l',i,j,hi,hn,hm,g,hj=>by
  have hij:=(stpN_ok hi g).1
  obtain ⟨m,rfl⟩:∃m',m=m'+1:=⟨m - 1,by omega⟩
  unfold stpN at g ⊢
  split at g
  ·cases g
  ·next k j1 h1=>
   have g1:=sgn_ok h1
   have g2:=blk_le s j1
   split at g
   ·cases g
   ·next t j2 h2=>
    have g3:=lit_ok h2
    split at g
    ·next h3=>
     have hin:=bt_in (s:=s) (i:=j2) (by omega)
     have g4:=stpN_ok g3.2 g
     have g5:j2 < e:=by
      by_cases q:j2 < e
      ·exact q
      ·exfalso
       have:j=j2:=by omega
       subst this
       cases n with
       | zero=>omega
       | succ n=>
        unfold stpN at g
        split at g
        ·cases g
        ·next k' j3 h4=>
         have g6:=sgn_ok h4
         have g7:=blk_le s j3
         split at g
         ·cases g
         ·next t' j4 h5=>
          have g8:=lit_ok h5
          split at g
          ·have g9:=(stpN_ok g8.2 g).1
           omega
          ·injection g with g;injection g with _ g
           omega
     rw [sgn_preO h h1 (by omega)]
     dsimp only
     rw [blk_pre h _ j1 rfl (by omega),lit_preO h h2 (by omega)]
     dsimp only
     rw [h.eq j2 g5,if_pos h3]
     exact stpN_preO h g3.2 (by omega) (by omega) g hj
    ·next h3=>
     injection g with g;injection g with ga gb
     rw [sgn_preO h h1 (by omega)]
     dsimp only
     rw [blk_pre h _ j1 rfl (by omega),lit_preO h h2 (by omega)]
     dsimp only
     have h3':¬(bt s' j2=60∨bt s' j2=61):=by
      by_cases hi2:j2 < e
      ·rw [h.eq j2 hi2];exact h3
      ·rw [h.z (by omega)];decide
     rw [if_neg h3',ga,gb]
def bfr (s:ByteArray) (i:Nat):Rd Bool:=if bt s i=91 then (match wrd s [91,98,101,102,111,114,101,93] i with | .error e=>.error e | .ok (_,j)=>.ok (true,skp s j)) else .ok (false,i)
theorem bfr_err {s:ByteArray} {i f:Nat} (h:bfr s i=.error f):i < f:=by
 unfold bfr at h
 split at h
 ·next h0=>
  split at h
  ·next h1=>
   injection h with h;subst h
   unfold wrd at h1
   rw [if_pos h0] at h1
   have:=wrd_err h1
   omega
  ·cases h
 ·cases h
theorem bfr_ok {s:ByteArray} {b:Bool} {i j:Nat} (h:bfr s i=.ok (b,j)):i≤j∧(bt s i=91→i < j):=by
 unfold bfr at h
 split at h
 ·next h0=>
  split at h
  ·cases h
  ·next u j1 h1=>
   injection h with h;injection h with _ h
   have g1:=(wrd_ok (by simp) h1).1
   have g2:=blk_le s j1
   simp at g1
   omega
 ·next h0=>
  injection h with h;injection h with _ h
  exact ⟨by omega,fun q=>absurd q h0⟩
theorem bfr_preE (h:Pre s s' e) {i:Nat} (g:bfr s i=.error e):bfr s' i=.error e:=by
 have hlt:=bfr_err g
 unfold bfr at g ⊢
 rw [h.eq i hlt]
 split at g
 ·next h0=>
  rw [if_pos h0]
  split at g
  ·next h1=>injection g with g;subst g;rw [wrd_preE h (by simp) h1]
  ·cases g
 ·cases g
theorem bfr_preO (h:Pre s s' e) {i j:Nat} {b:Bool} (g:bfr s i=.ok (b,j)) (hj:j≤e):bfr s' i=.ok (b,j):=by
 have hij:=bfr_ok g
 unfold bfr at g ⊢
 split at g
 ·next h0=>
  have:=hij.2 h0
  rw [h.eq i (by omega),if_pos h0]
  split at g
  ·cases g
  ·next u j1 h1=>
   injection g with g;injection g with ga gb
   have g2:=blk_le s j1
   rw [wrd_preO h (by simp) h1 (by omega)]
   dsimp only
   rw [blk_pre h _ j1 rfl (by omega),ga,gb]
 ·next h0=>
  have h0':¬bt s' i=91:=by
   by_cases hi2:i < e
   ·rw [h.eq i hi2];exact h0
   ·rw [h.z (by omega)];decide
  rw [if_neg h0']
  exact g
theorem chn_eq (s:ByteArray) (l:List Tlr) (i:Nat):chn s l i=match wrd s [38] i with
  | .error e=>.error e
  | .ok (_,i1)=>
   match bfr s (skp s i1) with
   | .error e=>.error e
   | .ok (b,i2)=>
    match lit s i2 with
    | .error e=>.error e
    | .ok (a,i3)=>stpN s (s.size+1 - i3) a b l i3:=rfl
theorem chn_err {s:ByteArray} {l:List Tlr} {i f:Nat} (h:chn s l i=.error f):i≤f:=by
 rw [chn_eq] at h
 split at h
 ·next h1=>injection h with h;subst h;exact wrd_err h1
 ·next u i1 h1=>
  have g1:=(wrd_ok (by simp) h1).1
  have g2:=blk_le s i1
  simp at g1
  split at h
  ·next h2=>injection h with h;subst h;have:=bfr_err h2;omega
  ·next b i2 h2=>
   have g3:=(bfr_ok h2).1
   split at h
   ·next h3=>injection h with h;subst h;have:=lit_err h3;omega
   ·next h3=>
    have g4:=lit_ok h3
    have g5:=(stpN_err g4.2 h).1
    omega
theorem chn_preE (h:Pre s s' e) {l:List Tlr} {i:Nat} (g:chn s l i=.error e):chn s' l i=.error e:=by
 rw [chn_eq] at g ⊢
 split at g
 ·next h1=>injection g with g;subst g;rw [wrd_preE h (by simp) h1]
 ·next u i1 h1=>
  have q1:=blk_le s i1
  split at g
  ·next h2=>
   injection g with g;subst g
   have q2:=bfr_err h2
   rw [wrd_preO h (by simp) h1 (by omega)]
   dsimp only
   rw [blk_pre h _ i1 rfl (by omega),bfr_preE h h2]
  ·next b i2 h2=>
   have q2:=(bfr_ok h2).1
   split at g
   ·next h3=>
    injection g with g;subst g
    have q3:=lit_err h3
    rw [wrd_preO h (by simp) h1 (by omega)]
    dsimp only
    rw [blk_pre h _ i1 rfl (by omega),bfr_preO h h2 (by omega)]
    dsimp only
    rw [lit_preE h h3]
   ·next a i3 h3=>
    have q3:=lit_ok h3
    have q4:=(stpN_err q3.2 g).1
    rw [wrd_preO h (by simp) h1 (by omega)]
    dsimp only
    rw [blk_pre h _ i1 rfl (by omega),bfr_preO h h2 (by omega)]
    dsimp only
    rw [lit_preO h h3 (by omega)]
    dsimp only
    exact stpN_preE h q3.2 (by rw [h.sz];exact Nat.le_refl _) g
theorem chn_preO (h:Pre s s' e) {l l':List Tlr} {i j:Nat} (g:chn s l i=.ok (l',j)) (hj:j≤e):chn s' l i=.ok (l',j):=by
 rw [chn_eq] at g ⊢
 split at g
 ·cases g
 ·next u i1 h1=>
  have q1:=blk_le s i1
  split at g
  ·cases g
  ·next b i2 h2=>
   have q2:=(bfr_ok h2).1
   split at g
   ·cases g
   ·next a i3 h3=>
    have q3:=lit_ok h3
    have q4:=(stpN_ok q3.2 g).1
    rw [wrd_preO h (by simp) h1 (by omega)]
    dsimp only
    rw [blk_pre h _ i1 rfl (by omega),bfr_preO h h2 (by omega)]
    dsimp only
    rw [lit_preO h h3 (by omega)]
    dsimp only
    exact stpN_preO h q3.2 (Nat.le_refl _) (by rw [h.sz];exact Nat.le_refl _) g hj
theorem chsN_err {s:ByteArray} {f:Nat}:∀{n:Nat} {l:List Tlr} {i:Nat},chsN s n l i=.error f→i≤f
 | 0,l,i,g=>by cases g
 | n+1,l,i,g=>by
  unfold chsN at g
  split at g
  ·split at g
   ·next h1=>injection g with g;subst g;exact chn_err h1
   ·next h1=>
    have q1:=chn_ok h1
    have:=chsN_err g
    omega
  ·cases g
theorem chsN_pre (h:Pre s s' e):∀{n m:Nat} {l:List Tlr} {i:Nat},i≤e→e - i≤m→chsN s n l i=.error e→chsN s' m l i=.error e∨∃l' j,chsN s' m l i=.ok (l',j)
 | 0,m,l,i,_,_,g=>by cases g
 | n+1,m,l,i,hi,hm,g=>by
  unfold chsN at g
  split at g
  ·next h0=>
   cases m with
   | zero=>exact .inr ⟨l,i,rfl⟩
   | succ m=>
    unfold chsN
    by_cases hie:i < e
    ·rw [if_pos (by rw [h.sz];exact hie)]
     split at g
     ·next h1=>
      injection g with g;subst g
      rw [chn_preE h h1]
      exact .inl rfl
     ·next l' j h1=>
      have q1:=chn_ok h1
      by_cases hje:j≤e
      ·rw [chn_preO h h1 hje]
       exact chsN_pre h hje (by omega) g
      ·exfalso
       exact hje (chsN_err g)
    ·rw [if_neg (by rw [h.sz];exact hie)]
     exact .inr ⟨l,i,rfl⟩
  ·cases g
end
theorem wrd_errs {s:ByteArray} {f:Nat}:∀{l:List Nat} {i:Nat},i≤s.size→(∀c ∈ l,c≠0)→wrd s l i=.error f→f≤s.size
 | [],i,_,_,g=>by cases g
 | c::r,i,hi,hc,g=>by
  unfold wrd at g
  split at g
  ·next h1=>exact wrd_errs (bt_in (by rw [h1];exact hc c (by simp))) (fun x hx=>hc x (List.mem_cons_of_mem _ hx)) g
  ·injection g with g;omega
theorem four_errs {s:ByteArray} {f:Nat}:∀{n:Nat} {c:Int} {i:Nat},i≤s.size→four s n c i=.error f→f≤s.size
 | 0,c,i,_,g=>by cases g
 | n+1,c,i,hi,g=>by
  unfold four at g
  split at g
  ·injection g with g;omega
  ·next h1=>exact four_errs (dg_in h1) g
theorem code_errs {s:ByteArray} {i f:Nat} (hi:i≤s.size) (g:code s i=.error f):f≤s.size:=by
 unfold code at g
 split at g
 ·next h1=>injection g with g;subst g;exact four_errs hi h1
 ·cases g
theorem litN_errs {s:ByteArray} {f:Nat}:∀{n:Nat} {a:List Int} {i:Nat},i≤s.size→litN s n a i=.error f→f≤s.size
 | 0,a,i,_,g=>by cases g
 | n+1,a,i,hi,g=>by
  unfold litN at g
  split at g
  ·next h0=>
   split at g
   ·next h1=>injection g with g;subst g;exact code_errs (bt_in (by omega)) h1
   ·next h1=>exact litN_errs (code_ok h1).2 g
  ·cases g
theorem lit_errs {s:ByteArray} {i f:Nat} (hi:i≤s.size) (h:lit s i=.error f):f≤s.size:=by
 unfold lit at h
 split at h
 ·next h1=>injection h with h;subst h;exact wrd_errs hi (by simp) h1
 ·next h1=>
  have g1:=(wrd_ok (by simp) h1).2 (by simp)
  split at h
  ·next h2=>injection h with h;subst h;exact code_errs g1 h2
  ·next h2=>
   have g2:=code_ok h2
   split at h
   ·next h3=>injection h with h;subst h;exact litN_errs g2.2 h3
   ·next h3=>
    have g3:=litN_ok g2.2 h3
    split at h
    ·next h4=>injection h with h;subst h;exact wrd_errs g3.2 (by simp) h4
    ·cases h
theorem stpN_errs {s:ByteArray} {f:Nat}:∀{n:Nat} {a:List Int} {b:Bool} {l:List Tlr} {i:Nat},i≤s.size→stpN s n a b l i=.error f→f≤s.size
 | 0,a,b,l,i,_,h=>by cases h
 | n+1,a,b,l,i,hi,h=>by
  unfold stpN at h
  split at h
  ·next h1=>injection h with h;subst h;have:=(sgn_err h1).1;omega
  ·next j1 h1=>
   have g1:=sgn_ok h1
   have g2:=blk_sz g1.2
   split at h
   ·next h2=>injection h with h;subst h;exact lit_errs g2 h2
   ·next h2=>
    have g3:=lit_ok h2
    split at h
    ·exact stpN_errs g3.2 h
    ·cases h
theorem chn_errs {s:ByteArray} {l:List Tlr} {i f:Nat} (hi:i≤s.size) (h:chn s l i=.error f):f≤s.size:=by
 rw [chn_eq] at h
 split at h
 ·next h1=>injection h with h;subst h;exact wrd_errs hi (by simp) h1
 ·next u i1 h1=>
  have g1:=(wrd_ok (by simp) h1).2 (by simp)
  have g2:=blk_sz g1
  split at h
  ·next h2=>
   injection h with h;subst h
   unfold bfr at h2
   split at h2
   ·split at h2
    ·next h3=>injection h2 with h2;subst h2;exact wrd_errs g2 (by simp) h3
    ·cases h2
   ·cases h2
  ·next b i2 h2=>
   have g3:i2≤s.size:=by
    unfold bfr at h2
    split at h2
    ·split at h2
     ·cases h2
     ·next h3=>
      injection h2 with h2;injection h2 with _ h2
      rw [←h2]
      exact blk_sz ((wrd_ok (by simp) h3).2 (by simp))
    ·injection h2 with h2;injection h2 with _ h2
     omega
   split at h
   ·next h3=>injection h with h;subst h;exact lit_errs g3 h3
   ·next h3=>exact stpN_errs (lit_ok h3).2 h
theorem chsN_errs {s:ByteArray} {f:Nat}:∀{n:Nat} {l:List Tlr} {i:Nat},i≤s.size→chsN s n l i=.error f→f≤s.size
 | 0,l,i,_,g=>by cases g
 | n+1,l,i,hi,g=>by
  unfold chsN at g
  split at g
  ·split at g
   ·next h1=>injection g with g;subst g;exact chn_errs hi h1
   ·next h1=>exact chsN_errs (chn_ok h1).2 g
  ·cases g
theorem parse_err {s:ByteArray} {e:Nat} (h:parse s=.error e):e≤s.size:=chsN_errs (blk_sz (Nat.zero_le _)) h
theorem parse_pre {s s':ByteArray} {e:Nat} (h:parse s=.error e) (hp:e≤s.size→Pre s s' e):e≤s.size∧(parse s'=.error e∨∃l j,parse s'=.ok (l,j)):=by
 have he:e≤s.size:=parse_err h
 refine ⟨he,?_⟩
 have H:=hp he
 have hb:skp s 0≤e:=chsN_err h
 unfold parse
 rw [blk_pre H _ 0 rfl hb]
 exact chsN_pre H hb (by rw [H.sz];exact Nat.le_refl _) h
end Go.Proofs.YtkhmjidaeliccaaGreatDoor.Pa
namespace Go.Proofs.YtkhmjidaeliccaaGreatDoor.Pa
open Go.RowKit Tl
def hd (d:Int):Int:=if d < 10 then 48+d else 55+d
def At (s:ByteArray) (i:Nat) (r:List Int):Prop:=i+r.length=s.size∧∀k,(bt s (i+k):Int)=r.getD k 0
section
variable {s:ByteArray} {i:Nat} {c:Int} {r:List Int}
theorem At.hd (h:At s i (c::r)):(bt s i:Int)=c:=h.2 0
theorem At.tl (h:At s i (c::r)):At s (i+1) r:=⟨by have:=h.1;simp at this;omega,fun k=>by
 have:=h.2 (k+1)
 rw [show i+1+k=i+(k+1) by omega,this]
 rfl⟩
theorem At.nil (h:At s i []):i=s.size:=by have:=h.1;simpa using this
theorem At.app:∀{l:List Int} {i:Nat},At s i (l++r)→At s (i+l.length) r
 | [],i,h=>h
 | c::l,i,h=>by
  have:=At.app (l:=l) (At.tl h)
  rw [show i+1+l.length=i+(c::l).length by simp;omega] at this
  exact this
theorem At.stop (h:At s i (c::r)) (hc:¬(c=32∨c=10)):skp s i=i:=blk_stop (by have:=h.hd;omega)
end
end Go.Proofs.YtkhmjidaeliccaaGreatDoor.Pa
namespace Go.Proofs.YtkhmjidaeliccaaGreatDoor.Pa
open Go.RowKit Tl
section
variable {s:ByteArray}
theorem four_bd:∀{n:Nat} {c d:Int} {i j:Nat} (B:Int),0≤c→c≤B→four s n c i=.ok (d,j)→0≤d∧d≤16 ^ n*B+(16 ^ n - 1)
 | 0,c,d,i,j,B,h0,hB,h=>by
  injection h with h;injection h with h _
  subst h
  simp
  exact ⟨h0,hB⟩
 | n+1,c,d,i,j,B,h0,hB,h=>by
  unfold four at h
  split at h
  ·cases h
  ·next h1=>
   have hd:=dg_bd (bt s i)
   have g:=four_bd (16*B+15) (by omega) (by omega) h
   refine ⟨g.1,?_⟩
   have e:(16:Int) ^ (n+1)=16 ^ n*16:=Int.pow_succ 16 n
   rw [e]
   have e2:(16:Int) ^ n*(16*B+15)+(16 ^ n - 1)=16 ^ n*16*B+(16 ^ n*16 - 1):=by
    rw [Int.mul_add,Int.mul_assoc];omega
   omega
theorem moreN_bd:∀{n:Nat} {c:Int} {i:Nat},0≤c→c≤1114111→0≤(moreN s n c i).1∧(moreN s n c i).1≤1114111
 | 0,c,i,h0,h1=>⟨h0,h1⟩
 | n+1,c,i,h0,h1=>by
  unfold moreN
  split
  ·next g=>exact moreN_bd (by omega) g.2.2
  ·exact ⟨h0,h1⟩
theorem code_bd {i j:Nat} {c:Int} (h:code s i=.ok (c,j)):0≤c∧c≤1114111:=by
 unfold code at h
 split at h
 ·cases h
 ·next c' k hf=>
  injection h with h
  have g:=four_bd 0 (Int.le_refl _) (Int.le_refl _) hf
  have g2:c'≤65535:=g.2
  have g3:=moreN_bd (s:=s) (n:=s.size - k) (i:=k) g.1 (by omega)
  unfold more at h
  rw [h] at g3
  exact g3
theorem litN_bd:∀{n:Nat} {a l:List Int} {i j:Nat},(∀c ∈ a,0≤c∧c≤1114111)→i≤s.size→litN s n a i=.ok (l,j)→(∀c ∈ l,0≤c∧c≤1114111)∧a.length≤l.length∧l.length+i≤a.length+j
 | 0,a,l,i,j,ha,_,h=>by
  injection h with h;injection h with h h'
  subst h;subst h'
  exact ⟨ha,Nat.le_refl _,Nat.le_refl _⟩
 | n+1,a,l,i,j,ha,hi,h=>by
  unfold litN at h
  split at h
  ·split at h
   ·cases h
   ·next c k hc=>
    have g1:=code_ok hc
    have g2:=code_bd hc
    have g3:=litN_bd (by
     intro x hx
     rcases List.mem_append.1 hx with hx | hx
     ·exact ha x hx
     ·rw [List.mem_singleton.1 hx];exact g2) g1.2 h
    refine ⟨g3.1,?_,?_⟩
    ·have:=g3.2.1;simp at this;omega
    ·have:=g3.2.2;simp at this;omega
  ·injection h with h;injection h with h h'
   subst h;subst h'
   exact ⟨ha,Nat.le_refl _,Nat.le_refl _⟩
theorem lit_bd {l:List Int} {i j:Nat} (h:lit s i=.ok (l,j)):rngT l=true∧l.length+2+i≤j:=by
 unfold lit at h
 split at h
 ·cases h
 ·next h1=>
  split at h
  ·cases h
  ·next c i2 h2=>
   split at h
   ·cases h
   ·next h3=>
    split at h
    ·cases h
    ·next i4 h4=>
     injection h with h;injection h with ha hb
     subst ha
     have g1:=(wrd_ok (by simp) h1).1
     have g2:=code_ok h2
     have g2b:=code_bd h2
     have g3:=litN_bd (by intro x hx;rw [List.mem_singleton.1 hx];exact g2b) g2.2 h3
     have g4:=(wrd_ok (by simp) h4).1
     have g6:=blk_le s i4
     simp at g1 g4 g3
     refine ⟨?_,by omega⟩
     unfold rngT
     simp only [Bool.and_eq_true,Bool.not_eq_true',List.all_eq_true,decide_eq_true_eq]
     refine ⟨?_,g3.1⟩
     cases hl:(List.isEmpty _) with
     | false=>rfl
     | true=>rw [List.isEmpty_iff] at hl;rw [hl] at g3;simp at g3
end
end Go.Proofs.YtkhmjidaeliccaaGreatDoor.Pa
