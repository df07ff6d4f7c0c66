/- Texts that are merged into one file: SlClone, MeasC, Meas, SetD, SetE. -/
import Derived.Test.YtkhmjidaeliccaaGreatDoorB03
import Derived.Test.YtkhmjidaeliccaaGreatDoorB07
import Derived.Test.YtkhmjidaeliccaaGreatDoorB10
import Derived.Laws.StructEq
set_option maxRecDepth 100000
set_option maxHeartbeats 51200000
namespace Go.Proofs.YtkhmjidaeliccaaGreatDoor
open Go.RowKit Go.Maps Go.WideMaps
def RetOwnC (t:TypeId) (k n:Nat) (cs:List Value) (w:World) (e:Ending) (w':World):Prop:=∃A c,e=.returned (.slice A n c)∧w'.ownsRow w.heap.size t k (.slice A n c) n cs∧Below w.heap.size w w'
theorem infoC_Group:(Tryz.prog.info? 98).map (fun i=>(i.zero,i.size,i.bytes))=some (some (.agg #[.string .empty,.int .i64 0,.int .i64 0]),3,32):=by kernel_rfl
theorem cloneGroup_raw (A:Option Addr) (n k:Nat) (cs:List Value) (w:World) (hA:Sl w A cs) (hl:cs.length=n*3) (h1:∀u ∈ cs,u.oneCell'=true) (hb:n≤1048576) :
  Calls Tryz.prog 88 #[.slice A n k] w (RetOwnC 98 3 n cs w):=by
 cases A with
 | none=>
  have hz:cs=[]:=by
   cases cs with
   | nil=>rfl
   | cons z r=>obtain ⟨b,o,h,_⟩:=hA (by simp);cases h
  subst hz
  have hn:n=0:=by simp at hl;omega
  subst hn
  have hnil:=fun (W:World) n c=>Lib.run_eql_slice_nil (P:=Tryz.prog) W 30 98 none n c 0 0 Tryz.underlying30
  go_enter Tryz.func88,Tryz.ntmps88
  go_wp2
  go_ret
  exact ⟨none,0,rfl,World.ownsRow_nil _ _ _ _,Below.refl _ _⟩
 | some a=>
  have hnil:=fun (W:World) n c=>Lib.run_eql_slice_nil (P:=Tryz.prog) W 30 98 (some a) n c 0 0 Tryz.underlying30
  go_enter Tryz.func88,Tryz.ntmps88
  go_wp2_with (at_builtin;refine wpList_app _ _ 30 98 (.agg #[.string .empty,.int .i64 0,.int .i64 0]) 3 32 rfl rfl Tryz.underlying30 infoC_Group rfl (by decide) (by decide) rfl (own_new [] 98 3 0 w.heap.size rfl rfl (Nat.le_refl _) (by omega)) rfl (Sl.alloc hA _) hl h1 (by omega) (by simp) ?_;intro A1 c1 w1 hown1 hc1 hb1 _ _;simp only [Nat.zero_add,List.nil_append] at hown1 hc1)
  go_ret
  exact ⟨A1,c1,rfl,hown1,((Below.refl _ _).alloc (Nat.le_refl _) _).trans hb1⟩
theorem infoC_Entry:(Tryz.prog.info? 75).map (fun i=>(i.zero,i.size,i.bytes))=some (some (.agg #[.slice none 0 0,.slice none 0 0]),2,48):=by kernel_rfl
theorem cloneEntry_raw (A:Option Addr) (n k:Nat) (cs:List Value) (w:World) (hA:Sl w A cs) (hl:cs.length=n*2) (h1:∀u ∈ cs,u.oneCell'=true) (hb:n≤1048576) :
  Calls Tryz.prog 89 #[.slice A n k] w (RetOwnC 75 2 n cs w):=by
 cases A with
 | none=>
  have hz:cs=[]:=by
   cases cs with
   | nil=>rfl
   | cons z r=>obtain ⟨b,o,h,_⟩:=hA (by simp);cases h
  subst hz
  have hn:n=0:=by simp at hl;omega
  subst hn
  have hnil:=fun (W:World) n c=>Lib.run_eql_slice_nil (P:=Tryz.prog) W 29 75 none n c 0 0 Tryz.underlying29
  go_enter Tryz.func89,Tryz.ntmps89
  go_wp2
  go_ret
  exact ⟨none,0,rfl,World.ownsRow_nil _ _ _ _,Below.refl _ _⟩
 | some a=>
  have hnil:=fun (W:World) n c=>Lib.run_eql_slice_nil (P:=Tryz.prog) W 29 75 (some a) n c 0 0 Tryz.underlying29
  go_enter Tryz.func89,Tryz.ntmps89
  go_wp2_with (at_builtin;refine wpList_app _ _ 29 75 (.agg #[.slice none 0 0,.slice none 0 0]) 2 48 rfl rfl Tryz.underlying29 infoC_Entry rfl (by decide) (by decide) rfl (own_new [] 75 2 0 w.heap.size rfl rfl (Nat.le_refl _) (by omega)) rfl (Sl.alloc hA _) hl h1 (by omega) (by simp) ?_;intro A1 c1 w1 hown1 hc1 hb1 _ _;simp only [Nat.zero_add,List.nil_append] at hown1 hc1)
  go_ret
  exact ⟨A1,c1,rfl,hown1,((Below.refl _ _).alloc (Nat.le_refl _) _).trans hb1⟩
end Go.Proofs.YtkhmjidaeliccaaGreatDoor
namespace Go.Proofs.YtkhmjidaeliccaaGreatDoor
open Go.RowKit Go.Maps Go.WideMaps
def SzRet (A0:Option Addr) (n0 k0:Nat) (A1:Option Addr) (n1 k1:Nat) (A2:Option Addr) (n2 k2:Nat) (s:Nat) (ms:List Mp) (c:Int) (w:World) (n:Nat) (mk:Int→Option Int) (cyc:Bool) (e:Ending) (w':World):Prop:=
 ∃v n' mk' cyc' lng',e=.returned (.int .i64 v)∧SzPost A0 n0 k0 A1 n1 k1 A2 n2 k2 s ms c w n mk cyc v w' n' mk' cyc' lng'
def SizeOk (A0:Option Addr) (n0 k0:Nat) (A1:Option Addr) (n1 k1:Nat) (A2:Option Addr) (n2 k2:Nat) (s:Nat) (ms:List Mp) (w0:World) (u:Nat):Prop:=
 ∀(c:Int) (w:World) (n:Nat) (mk:Int→Option Int) (cyc lng:Bool),2*unmarked (fsM ms) mk+hk c < u→0≤c∧c≤1114111→DInv (onM ms true) capE mxE mk cyc lng→(∀x,mk x=some (-1)→Path (onM ms true) x c)→
  MS A0 n0 k0 A1 n1 k1 A2 n2 k2 s w n mk cyc lng→Below s w0 w→n+200*unmarked (fsM ms) mk+2*hk c≤1000000000→
  Calls Tryz.prog 181 #[.int .i64 c,.pointer (some ⟨s,0,none⟩),.pointer (some ⟨s+4,0,none⟩),.pointer (some ⟨s+1,0,none⟩),.pointer (some ⟨s+5,0,none⟩),.pointer (some ⟨s+2,0,none⟩)] w
   (SzRet A0 n0 k0 A1 n1 k1 A2 n2 k2 s ms c w n mk cyc)
theorem DExt.finish {mk mk':Int→Option Int} {c v:Int} (hn:mk c=none) (hv:v≠-1) (h:DExt (putM mk c (-1)) mk'):DExt mk (putM mk' c v):=by
 refine ⟨fun x k e=>?_,fun x e=>?_⟩
 ·have hx:¬x=c:=fun e'=>by rw [e',hn] at e;cases e
  rw [putM_other _ _ hx]
  exact h.old x k (by rw [putM_other _ _ hx];exact e)
 ·by_cases hx:x=c
  ·subst hx;rw [putM_same];intro e2;injection e2 with e2;exact hv e2
  ·rw [putM_other _ _ hx];exact h.new x (by rw [putM_other _ _ hx];exact e)
theorem DExt.way {on:Int→Option (List Int)} {mk mk':Int→Option Int} {c e:Int} (h:DExt (putM mk c (-1)) mk') (hp:∀x,mk x=some (-1)→Path on x c) (he:Edge on c e):∀x,mk' x=some (-1)→Path on x e:=by
 intro x hx
 cases hm:putM mk c (-1) x with
 | none=>exact absurd hx (h.new x hm)
 | some v=>
  have h1:=h.old x v hm
  rw [hx] at h1
  injection h1 with h1
  subst h1
  by_cases e':x=c
  ·subst e';exact .one he
  ·rw [putM_other _ _ e'] at hm;exact .more (hp x hm) he
structure SzLoop (A0:Option Addr) (n0 k0:Nat) (A1:Option Addr) (n1 k1:Nat) (A2:Option Addr) (n2 k2:Nat) (s:Nat) (ms:List Mp) (c:Int) (toq:List Int) (w:World) (n:Nat) (mk:Int→Option Int) (cyc:Bool) (D i:Nat) (vs:List Int) (w':World) (n':Nat) (mk':Int→Option Int) (cyc' lng':Bool):Prop where
 le:i≤toq.length
 ln:vs.length=i
 bd:∀v ∈ vs,1≤v∧v≤capE
 ext:DExt (putM mk c (-1)) mk'
 inv:DInv (onM ms true) capE mxE mk' cyc' lng'
 mon:cyc=true→cyc'=true
 sz:cyc'=false→∀j,(h1:j < toq.length)→(h2:j < vs.length)→Sz (onM ms true) capE toq[j] vs[j]
 st:MS A0 n0 k0 A1 n1 k1 A2 n2 k2 s w' n' mk' cyc' lng'
 kp:KeepD s w w'
 bel:Below s w w'
 pot:n'+200*unmarked (fsM ms) mk'≤n+1+200*unmarked (fsM ms) (putM mk c (-1))+D*i
section
variable {A0:Option Addr} {n0 k0:Nat} {A1:Option Addr} {n1 k1:Nat} {A2:Option Addr} {n2 k2:Nat} {s:Nat} {ms:List Mp} {c:Int} {toq:List Int} {w:World} {n:Nat} {mk:Int→Option Int} {cyc:Bool} {D i:Nat} {vs:List Int} {w':World} {n':Nat} {mk':Int→Option Int} {cyc' lng':Bool}
theorem capSum_bd0 {vs:List Int} (h:∀v ∈ vs,1≤v∧v≤capE):0≤capSum capE vs∧capSum capE vs≤capE:=by
 by_cases e:vs=[]
 ·subst e;simp [capSum,capE]
 ·have:=capSum_pos (cap:=capE) (by unfold capE;omega) (fun v hv=>(h v hv).1) e
  omega
theorem SzLoop.next (h:SzLoop A0 n0 k0 A1 n1 k1 A2 n2 k2 s ms c toq w n mk cyc D i vs w' n' mk' cyc' lng') (hi:i < toq.length) {v:Int} {w2:World} {n2':Nat} {mk2:Int→Option Int} {cyc2 lng2:Bool}
  (p:SzPost A0 n0 k0 A1 n1 k1 A2 n2 k2 s ms toq[i] w' n' mk' cyc' v w2 n2' mk2 cyc2 lng2) (hD:2*hk toq[i]≤D):SzLoop A0 n0 k0 A1 n1 k1 A2 n2 k2 s ms c toq w n mk cyc D (i+1) (vs++[v]) w2 n2' mk2 cyc2 lng2:=by
 refine ⟨hi,by simp [h.ln],fun x hx=>?_,h.ext.trans p.ext,p.inv,fun e=>p.mon (h.mon e),fun e j h1 h2=>?_,p.st,h.kp.trans p.kp,h.bel.trans p.bel,?_⟩
 ·rcases List.mem_append.1 hx with hx | hx
  ·exact h.bd x hx
  ·simp at hx;subst hx;exact p.bd
 ·by_cases e2:j < vs.length
  ·rw [List.getElem_append_left e2]
   refine h.sz ?_ j h1 e2
   cases hc:cyc' with
   | false=>rfl
   | true=>rw [p.mon hc] at e;cases e
  ·have e3:j=i:=by simp at h2;have:=h.ln;omega
   subst e3
   rw [List.getElem_append_right (by omega)]
   simpa [h.ln] using p.sz e
 ·have h1:=h.pot
  have h2:=p.pot
  rw [Nat.mul_succ]
  omega
end
theorem size_step (A0:Option Addr) (n0 k0:Nat) (A1:Option Addr) (k1:Nat) (A2:Option Addr) (n2 k2:Nat) (s:Nat) (ms:List Mp) (w0:World) (hs0:s=w0.heap.size) (hA:Mps w0 A1 ms) (hst:StF ms) (hco:CodesOk ms) (hbig:ms.length≤1048576) (u:Nat)
  (ih:SizeOk A0 n0 k0 A1 ms.length k1 A2 n2 k2 s ms w0 u):SizeOk A0 n0 k0 A1 ms.length k1 A2 n2 k2 s ms w0 (u+1):=by
 intro c w n mk cyc lng hu hc hinv hpath hms hbel hn
 have HI:=Lib.hid ih;clear ih
 have ON:=Lib.hid (fun W (hb:Below s w0 W)=>once_any A0 n0 k0 A1 ms.length k1 A2 n2 k2 ms c true W (hA.below (hs0 ▸ hb)) rfl hbig hst)
 have KD:=Lib.hid (fun toq=>onM_kids (ms:=ms) (b:=true) (c:=c) (toq:=toq) hco)
 have HV:=Lib.hid hinv;have HP:=Lib.hid hpath
 have q0:w.cell? ⟨s,0,none⟩=some (.slice A0 n0 k0):=hms.bN.cell rfl
 have q1:w.cell? ⟨s,1,none⟩=some (.slice A1 ms.length k1):=hms.bN.cell rfl
 have q2:w.cell? ⟨s,2,none⟩=some (.slice A2 n2 k2):=hms.bN.cell rfl
 have HM:=Lib.hid hms
 clear hinv hpath hms hst hco hs0 hA
 generalize hR:onM ms true c=R at *
 have HR:=Lib.hid hR
 clear hR
 go_enter Tryz.func181,Tryz.ntmps181
 go_wp2_with fail
 with_reducible refine (ON.out _ hbel).mono ?_
 rintro e w1 ⟨E,d,rfl,hd,hE,hb1⟩
 clear ON
 have HM1:=Lib.hid (HM.out.below hb1)
 have HK1:=Lib.hid (KeepD.of_below (s:=s) hb1)
 have hsw:s≤w.heap.size:=Nat.le_of_lt HM.out.bN.lt
 have HB1:=Lib.hid (hb1.mono hsw)
 have leaf:∀(hl:R=none∨R=some []),SzRet A0 n0 k0 A1 ms.length k1 A2 n2 k2 s ms c w n mk cyc (.returned (.int .i64 1)) w1:=fun hl=>by
  refine ⟨1,n,mk,cyc,lng,rfl,⟨by unfold capE;omega,DExt.refl _,HV.out,fun h=>h,fun _=>.leaf (by rw [HR.out];exact hl),HM1.out,HK1.out,HB1.out,by omega,fun toq h hne=>?_⟩⟩
  rw [HR.out] at h
  rcases hl with rfl | rfl
  ·cases h
  ·injection h with h;exact absurd h.symm hne
 have LF:=Lib.hid leaf
 clear leaf
 cases R with
 | none=>
  go_wp2_with fail
  go_ret
  exact LF.out (by simp)
 | some toq=>
  simp only [Option.getD_some,Option.isSome_some] at hd hE ⊢
  rcases toq with _ | ⟨t0,tr⟩
  ·go_wp2_with fail
   go_ret
   exact LF.out (by simp)
  clear LF
  generalize hto:t0::tr=toq at *
  have hne:toq≠[]:=by rw [←hto];simp
  have hlen:0 < toq.length:=by rw [←hto];simp
  clear hto
  have p4:w1.cell? ⟨s+4,0,none⟩=some (.map (some (s+3))):=HM1.out.bM.cell rfl
  have hkey:iok c:=iok_code hc
  have hon:onM ms true c=some toq:=HR.out
  have HON:=Lib.hid hon
  clear hon
  cases hm:mk c with
  | some k=>
   have HMK:=Lib.hid hm
   have f1:w1.frozen? ⟨s+1,0,none⟩=false:=HM1.out.bC.free 0
   have q1':w1.cell? ⟨s+1,0,none⟩=some (.bool cyc):=HM1.out.bC.cell rfl
   have hkb:=HV.out.bd c k hm
   have FIN:=Lib.hid (fun (v:Int) (b:Bool) (hv:v=max k 1) (hb:b=(cyc || (k==-1)))=>show SzRet A0 n0 k0 A1 ms.length k1 A2 n2 k2 s ms c w n mk cyc (.returned (.int .i64 v)) (w1.setCell ⟨s+1,0,none⟩ (.bool b)) from by
    subst hv;subst hb
    refine ⟨_,n,mk,_,lng,rfl,⟨by unfold capE at *;omega,DExt.refl _,HV.out.meet hm (fun e=>HP.out c e),fun h=>by simp [h],fun h=>?_,HM1.out.setC _,HK1.out.trans (KeepD.of_grown (grown_set _ _ _) (.inl rfl)),HB1.out.setCell (by simp) _,by omega,fun _ _ _=>⟨k,hm⟩⟩⟩
    simp only [Bool.or_eq_false_iff,beq_eq_false_iff_ne] at h
    have h1:=HV.out.fin h.1 c k hm h.2
    have h2:=h1.bd (by unfold capE;omega)
    rw [Int.max_eq_left h2.1]
    exact h1)
   have mk_at:(mk c).map (fun k=>(Value.int .i64 k))=some (.int .i64 k):=by rw [hm];rfl
   clear hm
   cases cyc with
   | true=>
    go_wp2_with (at_lookup;refine wpList_lookOk rfl _ _ 229 rfl HM1.out.mp law_int Tryz.underlying229 (zero_intM _) rfl rfl hkey (key_int hkey) ?_;rw [mk_at];simp only [Option.getD_some,Option.isSome_some])
    all_goals (go_ret;exact FIN.out _ _ (by omega) (by simp))
   | false=>
    by_cases hk1:k=-1
    ·subst hk1
     go_wp2_with (at_lookup;refine wpList_lookOk rfl _ _ 229 rfl HM1.out.mp law_int Tryz.underlying229 (zero_intM _) rfl rfl hkey (key_int hkey) ?_;rw [mk_at];simp only [Option.getD_some,Option.isSome_some])
     all_goals (go_ret;exact FIN.out _ _ (by omega) (by simp))
    ·have hk2:(k==-1)=false:=by simpa using hk1
     rw [hk2] at FIN
     clear hk2
     go_wp2_with (at_lookup;refine wpList_lookOk rfl _ _ 229 rfl HM1.out.mp law_int Tryz.underlying229 (zero_intM _) rfl rfl hkey (key_int hkey) ?_;rw [mk_at];simp only [Option.getD_some,Option.isSome_some])
     all_goals (go_ret;exact FIN.out _ _ (by omega) (by simp [hk1]))
  | none=>
   have mk_at:(mk c).map (fun k=>(Value.int .i64 k))=none:=by rw [hm];rfl
   go_wp2_with first
    | (at_lookup;refine wpList_lookOk rfl _ _ 229 rfl HM1.out.mp law_int Tryz.underlying229 (zero_intM _) rfl rfl hkey (key_int hkey) ?_;rw [mk_at];simp only [Option.getD_none,Option.isSome_none])
    | (at_mapUpdate;refine wpList_mput rfl _ _ _ 229 rfl HM1.out.mp law_int Tryz.underlying229 (by unfold maxLen;omega) rfl rfl rfl hkey (key_int hkey) (fun y _ e=>ikey_inj e) ?_;intro w2 hM2 hg2)
   have MS2:=Lib.hid (HM1.out.put (c:=c) (k:=-1) hM2 hg2)
   have hb2:Below s w w2:=below_grown HB1.out hg2 (by omega) (by have:=hb1.size;omega)
   have KD2:=Lib.hid (HK1.out.trans (KeepD.of_grown hg2 (.inr (.inr rfl))))
   have INT:=Lib.hid (fun (W:World) (hk:KeepD s w1 W)=>HM1.out.ints hk hE)
   have K12:=Lib.hid (KeepD.of_grown (s:=s) hg2 (.inr (.inr rfl)))
   clear hM2 hg2 hE mk_at p4
   obtain ⟨hl64,hcode,hdis⟩:=KD.out toq rfl
   obtain ⟨D,hD1,hD2,hD3⟩:∃D,(∀e ∈ toq,2*unmarked (fsM ms) (putM mk c (-1))+hk e < u)∧(∀e ∈ toq,2*hk e≤D)∧n+2+200*unmarked (fsM ms) (putM mk c (-1))+D*64≤n+200*unmarked (fsM ms) mk+2*hk c:=by
    rcases hdis with ⟨g1,_,g3⟩ | ⟨g1,g2⟩
    ·have hle:unmarked (fsM ms) (putM mk c (-1))≤unmarked (fsM ms) mk:=unmarked_le fun x e=>by
      by_cases e':x=c
      ·rw [e',hm]
      ·rw [putM_other _ _ e'] at e;exact e
     exact ⟨0,fun e he=>by have:=g3 e he;omega,fun e he=>by have:=g3 e he;omega,by omega⟩
    ·have hlt:=unmarked_put (k:=-1) g2 hm
     exact ⟨2,fun e _=>by have:=hk_le e;omega,fun e _=>by have:=hk_le e;omega,by omega⟩
   have HD1:=Lib.hid hD1;have HD2:=Lib.hid hD2;have HD3:=Lib.hid hD3
   have HCO:=Lib.hid hcode
   have HMN:=Lib.hid hm
   have HN:=Lib.hid hn
   have HU:=Lib.hid hu
   clear hD1 hD2 hD3 hcode hdis KD hm hn hu
   go_loopw [12,46] (fun su q wr=>∃(i:Nat) (vs:List Int) (n':Nat) (mk':Int→Option Int) (cyc' lng':Bool),su=.int .i64 (capSum capE vs)∧q=.int .i64 i∧KeepD s w1 wr∧SzLoop A0 n0 k0 A1 ms.length k1 A2 n2 k2 s ms c toq w n mk cyc D i vs wr n' mk' cyc' lng')
    (fun _ q _=>toq.length - (intOf q).toNat)
   case atStart=>
    exact ⟨0,[],n+1,putM mk c (-1),cyc,lng,rfl,rfl,K12.out,⟨Nat.zero_le _,rfl,fun v h=>absurd h (by simp),DExt.refl _,HV.out.begin HON.out hne HMN.out (by unfold capE;omega) (by unfold mxE;omega),fun h=>h,fun _ j _ h2=>by simp at h2,MS2.out,KD2.out,hb2,by simp⟩⟩
   case round=>
    obtain ⟨i,vs,n',mk',cyc',lng',rfl,rfl,hkp,HL⟩:=hrel
    have hsum:0≤capSum capE vs∧capSum capE vs≤65:=capSum_bd0 HL.bd
    have hile:=HL.le
    have HLP:=Lib.hid HL
    clear HL
    by_cases hi:i < toq.length
    ·obtain ⟨b,o,rfl,hcell⟩:=(INT.out wr hkp).at hi
     have hc0:=hcell i hi
     clear hcell
     have p5:wr.cell? ⟨s+5,0,none⟩=some (.func (.func 181) #[] #[.pointer (some ⟨s,0,none⟩),.pointer (some ⟨s+4,0,none⟩),.pointer (some ⟨s+1,0,none⟩),.pointer (some ⟨s+5,0,none⟩),.pointer (some ⟨s+2,0,none⟩)]):=HLP.out.st.bS.cell rfl
     have hmem:toq[i] ∈ toq:=List.getElem_mem hi
     have CL:=Lib.hid (HI.out toq[i] wr n' mk' cyc' lng' (by have h1:=HD1.out _ hmem;have h2:=HLP.out.ext.unmarked (fsM ms);omega) (HCO.out _ hmem) HLP.out.inv (HLP.out.ext.way HP.out ⟨toq,HON.out,hmem⟩) HLP.out.st (hbel.trans HLP.out.bel)
      (by have h1:=HLP.out.pot;have h2:=HD3.out;have h3:=HN.out;have h4:=HD2.out _ hmem;have h5:D*i+D≤D*64:=by { rw [←Nat.mul_succ];exact Nat.mul_le_mul_left _ (by omega) };omega))
     have NX:=Lib.hid (fun (v:Int) W n2' mk2 cyc2 lng2 (p:SzPost A0 n0 k0 A1 ms.length k1 A2 n2 k2 s ms toq[i] wr n' mk' cyc' v W n2' mk2 cyc2 lng2)=>HLP.out.next hi p (HD2.out _ hmem))
     clear hmem
     generalize toq[i]=te at *
     have CS:=Lib.hid (fun v=>(capSum_snoc capE vs v))
     generalize capSum capE vs=sm at *
     unfold capE at CS
     go_wp2_with fail
     with_reducible refine CL.out.mono ?_
     rintro e W ⟨v,n2',mk2,cyc2,lng2,rfl,hp⟩
     have hvb:=hp.bd
     have NX2:=Lib.hid (NX.out v W n2' mk2 cyc2 lng2 hp)
     have HKK:=Lib.hid (hkp.trans hp.kp)
     clear hp CL NX p5
     unfold capE at hvb
     have CV:=Lib.hid (CS.out v)
     go_wp2_with fail
     all_goals
      go_roundw
      case rel=>exact ⟨i+1,vs++[v],n2',mk2,cyc2,lng2,by { show _=Value.int .i64 (capSum 65 (vs++[v]));rw [CV.out] <;> (congr 1 <;> (split <;> omega)) },by go_num,HKK.out,NX2.out⟩
      case measure=>simp [intOf];omega
    ·have hi':i=toq.length:=by omega
     subst hi'
     have p4:wr.cell? ⟨s+4,0,none⟩=some (.map (some (s+3))):=HLP.out.st.bM.cell rfl
     have hvne:vs≠[]:=fun e=>by have:=HLP.out.ln;rw [e] at this;simp at this;omega
     have hpos:=capSum_pos (cap:=capE) (by unfold capE;omega) (fun v hv=>(HLP.out.bd v hv).1) hvne
     have HZ:=Lib.hid (fun (h:cyc'=false)=>Sz.node (on:=onM ms true) (cap:=capE) HON.out hne HLP.out.ln (fun j h1 h2=>HLP.out.sz h j h1 h2))
     have hmc:mk' c=some (-1):=HLP.out.ext.old c (-1) (putM_same _ _ _)
     have hnn:n' < maxLen:=by
      have h1:=HLP.out.pot;have h2:=HD3.out;have h3:=HN.out
      have h5:D*toq.length≤D*64:=Nat.mul_le_mul_left _ hl64
      unfold maxLen;omega
     have POT:=Lib.hid (show n'+1+200*unmarked (fsM ms) (putM mk' c (capSum capE vs))≤n+200*unmarked (fsM ms) mk+2*hk c from by
      have h1:=HLP.out.pot;have h2:=HD3.out
      have h5:D*toq.length≤D*64:=Nat.mul_le_mul_left _ hl64
      have h6:unmarked (fsM ms) (putM mk' c (capSum capE vs))≤unmarked (fsM ms) mk':=unmarked_le fun x e=>by
       by_cases e':x=c
       ·rw [e',putM_same] at e;cases e
       ·rw [putM_other _ _ e'] at e;exact e
      omega)
     have hsW:s≤wr.heap.size:=Nat.le_of_lt HLP.out.st.bN.lt
     have FIN:=Lib.hid (fun (w3:World) (hM3:MapI w3 (s+3) (n'+1) (fun y=>if y=c then some (.int .i64 (capSum capE vs)) else (mk' y).map (fun k=>.int .i64 k))) (hg3:wr.grownBy w3 (some (s+3))) (b:Bool) (hb:b=(lng' || decide (64 < capSum capE vs)))=>show
      SzRet A0 n0 k0 A1 ms.length k1 A2 n2 k2 s ms c w n mk cyc (.returned (.int .i64 (capSum capE vs))) (w3.setCell ⟨s+2,0,none⟩ (.bool b)) from by
       subst hb
       exact ⟨capSum capE vs,n'+1,putM mk' c (capSum capE vs),cyc',lng' || decide (64 < capSum capE vs),rfl,⟨hpos,HLP.out.ext.finish HMN.out (by omega),HLP.out.inv.finish HON.out hne hmc hpos HZ.out (by unfold mxE;omega),HLP.out.mon,HZ.out,(HLP.out.st.put hM3 hg3).setL _,
        (HLP.out.kp.trans (KeepD.of_grown hg3 (.inr (.inr rfl)))).trans (KeepD.of_grown (grown_set _ _ _) (.inr (.inl rfl))),(below_grown HLP.out.bel hg3 (by omega) hsW).setCell (by simp) _,POT.out,fun _ _ _=>⟨_,putM_same _ _ _⟩⟩⟩)
     have LG:=Lib.hid (fun (w3:World) (hg3:wr.grownBy w3 (some (s+3)))=>HLP.out.st.bL.grown hg3 (by simp))
     have HMP:=Lib.hid HLP.out.st.mp
     clear hpos hmc HZ POT hvne
     generalize capSum capE vs=sm at *
     generalize hl:lng'=lg at *
     clear HLP hl
     go_wp2_with (at_mapUpdate;refine wpList_mput rfl _ _ _ 229 rfl HMP.out law_int Tryz.underlying229 hnn rfl rfl rfl hkey (key_int hkey) (fun y _ e=>ikey_inj e) ?_;intro w3 hM3 hg3;have f3:w3.frozen? ⟨s+2,0,none⟩=false:=(LG.out w3 hg3).free 0;have q3:w3.cell? ⟨s+2,0,none⟩=some (.bool lg):=(LG.out w3 hg3).cell rfl;have FN:=Lib.hid (FIN.out w3 hM3 hg3);clear hM3 hg3;cases lg)
     all_goals go_wp2_with fail
     all_goals (go_ret;exact FN.out _ (by simp))
theorem size_ok (A0:Option Addr) (n0 k0:Nat) (A1:Option Addr) (k1:Nat) (A2:Option Addr) (n2 k2:Nat) (s:Nat) (ms:List Mp) (w0:World) (hs0:s=w0.heap.size) (hA:Mps w0 A1 ms) (hst:StF ms) (hco:CodesOk ms) (hbig:ms.length≤1048576) (u:Nat) :
  SizeOk A0 n0 k0 A1 ms.length k1 A2 n2 k2 s ms w0 u:=by
 induction u with
 | zero=>intro c w n mk cyc lng hu;omega
 | succ u ih=>exact size_step A0 n0 k0 A1 k1 A2 n2 k2 s ms w0 hs0 hA hst hco hbig u ih
end Go.Proofs.YtkhmjidaeliccaaGreatDoor
namespace Go.Proofs.YtkhmjidaeliccaaGreatDoor
open Go.RowKit Go.Maps Go.WideMaps
theorem load_bool (W:World) (a:Addr) (x:Bool) (h:W.cell? a=some (.bool x)):(loadVar 4 a).run Tryz.prog W=.ok (.bool x) W:=by
 have hu:=Tryz.underlying4
 simp only [loadVar,isAgg,Sem.run_bind,run_underlying hu,Result.andThen_ok,Sem.run_pure]
 simp [run_load,h]
theorem results_cell2 {fn:Func} {p q:Tmp} {t u:TypeId} (h:fn.results=#[.cell p t,.cell q u]) (tmps:Array Value) (P:Program) (w:World) {a b:Addr} {x y:Value} (ha:tmps.getD p undef=.pointer (some a)) (hb:tmps.getD q undef=.pointer (some b))
  (hx:(loadVar t a).run P w=.ok x w) (hy:(loadVar u b).run P w=.ok y w):(results fn tmps).run P w=.ok (.tuple #[x,y]) w:=by
 rw [Array.getD_eq_getD_getElem?] at ha hb
 simp only [results,h]
 simp [Sem.run_bind,Result.andThen,ha,hb,asAddr,hx,hy]
theorem DInv_none (on:Int→Option (List Int)) (cap mx:Int):DInv on cap mx (fun _=>none) false false:=⟨fun _ _ h=>(by cases h),fun _ _ _ h=>(by cases h),fun h=>(by cases h),fun h=>(by cases h),fun _ _ h=>(by cases h),fun _ _ h=>(by cases h)⟩
def RetMeas (ms:List Mp) (w:World) (e:Ending) (w':World):Prop:=∃cyc lng,e=.returned (.tuple #[.bool cyc,.bool lng])∧MeasOk ms cyc lng∧Below w.heap.size w w'
theorem unmarked_len (fs:List Int) (mk:Int→Option Int):unmarked fs mk≤fs.length:=List.length_filter_le _ _
theorem MS_new (A0:Option Addr) (n0 k0:Nat) (A1:Option Addr) (n1 k1:Nat) (A2:Option Addr) (n2 k2:Nat) (w:World):MS A0 n0 k0 A1 n1 k1 A2 n2 k2 w.heap.size (((((((w).alloc (.cells #[.slice A0 n0 k0,.slice A1 n1 k1,.slice A2 n2 k2] 28)).alloc (.cells #[.bool false] 4)).alloc (.cells #[.bool false] 4)).alloc (.map #[] 0)).alloc (.cells #[.map (some (w.heap.size+1+1+1))] 229)).alloc (.cells #[.func (.func 181) #[] #[.pointer (some ⟨w.heap.size,0,none⟩),.pointer (some ⟨w.heap.size+1+1+1+1,0,none⟩),.pointer (some ⟨w.heap.size+1,0,none⟩),.pointer (some ⟨w.heap.size+1+1+1+1+1,0,none⟩),.pointer (some ⟨w.heap.size+1+1,0,none⟩)]] 147)) 0 (fun _=>none) false false∧Below w.heap.size w (((((((w).alloc (.cells #[.slice A0 n0 k0,.slice A1 n1 k1,.slice A2 n2 k2] 28)).alloc (.cells #[.bool false] 4)).alloc (.cells #[.bool false] 4)).alloc (.map #[] 0)).alloc (.cells #[.map (some (w.heap.size+1+1+1))] 229)).alloc (.cells #[.func (.func 181) #[] #[.pointer (some ⟨w.heap.size,0,none⟩),.pointer (some ⟨w.heap.size+1+1+1+1,0,none⟩),.pointer (some ⟨w.heap.size+1,0,none⟩),.pointer (some ⟨w.heap.size+1+1+1+1+1,0,none⟩),.pointer (some ⟨w.heap.size+1+1,0,none⟩)]] 147)):=by
 have h1:Box ((w).alloc (.cells #[.slice A0 n0 k0,.slice A1 n1 k1,.slice A2 n2 k2] 28)) w.heap.size 28 [.slice A0 n0 k0,.slice A1 n1 k1,.slice A2 n2 k2]:=Box.new _ _ _ rfl
 have h2:Box (((w).alloc (.cells #[.slice A0 n0 k0,.slice A1 n1 k1,.slice A2 n2 k2] 28)).alloc (.cells #[.bool false] 4)) (w.heap.size+1) 4 [.bool false]:=Box.new _ _ _ (by simp)
 have h3:Box ((((w).alloc (.cells #[.slice A0 n0 k0,.slice A1 n1 k1,.slice A2 n2 k2] 28)).alloc (.cells #[.bool false] 4)).alloc (.cells #[.bool false] 4)) (w.heap.size+2) 4 [.bool false]:=Box.new _ _ _ (by simp)
 have h4:MapI (((((w).alloc (.cells #[.slice A0 n0 k0,.slice A1 n1 k1,.slice A2 n2 k2] 28)).alloc (.cells #[.bool false] 4)).alloc (.cells #[.bool false] 4)).alloc (.map #[] 0)) (w.heap.size+3) 0 (fun _=>none):=by
  have:=MapIs.made Tryz.prog 3 ikey iok ((((w).alloc (.cells #[.slice A0 n0 k0,.slice A1 n1 k1,.slice A2 n2 k2] 28)).alloc (.cells #[.bool false] 4)).alloc (.cells #[.bool false] 4))
  simpa using this
 have h5:Box ((((((w).alloc (.cells #[.slice A0 n0 k0,.slice A1 n1 k1,.slice A2 n2 k2] 28)).alloc (.cells #[.bool false] 4)).alloc (.cells #[.bool false] 4)).alloc (.map #[] 0)).alloc (.cells #[.map (some (w.heap.size+1+1+1))] 229)) (w.heap.size+4) 229 [.map (some (w.heap.size+1+1+1))]:=Box.new _ _ _ (by simp)
 have h6:Box (((((((w).alloc (.cells #[.slice A0 n0 k0,.slice A1 n1 k1,.slice A2 n2 k2] 28)).alloc (.cells #[.bool false] 4)).alloc (.cells #[.bool false] 4)).alloc (.map #[] 0)).alloc (.cells #[.map (some (w.heap.size+1+1+1))] 229)).alloc (.cells #[.func (.func 181) #[] #[.pointer (some ⟨w.heap.size,0,none⟩),.pointer (some ⟨w.heap.size+1+1+1+1,0,none⟩),.pointer (some ⟨w.heap.size+1,0,none⟩),.pointer (some ⟨w.heap.size+1+1+1+1+1,0,none⟩),.pointer (some ⟨w.heap.size+1+1,0,none⟩)]] 147)) (w.heap.size+5) 147 [.func (.func 181) #[] #[.pointer (some ⟨w.heap.size,0,none⟩),.pointer (some ⟨w.heap.size+1+1+1+1,0,none⟩),.pointer (some ⟨w.heap.size+1,0,none⟩),.pointer (some ⟨w.heap.size+1+1+1+1+1,0,none⟩),.pointer (some ⟨w.heap.size+1+1,0,none⟩)]]:=Box.new _ _ _ (by simp)
 have al:∀(W:World) (o:Obj),Below W.heap.size W (W.alloc o):=fun W o=>(Below.refl _ _).alloc (Nat.le_refl _) _
 have b2:=al ((w).alloc (.cells #[.slice A0 n0 k0,.slice A1 n1 k1,.slice A2 n2 k2] 28)) (.cells #[.bool false] 4)
 have b3:=al (((w).alloc (.cells #[.slice A0 n0 k0,.slice A1 n1 k1,.slice A2 n2 k2] 28)).alloc (.cells #[.bool false] 4)) (.cells #[.bool false] 4)
 have b4:=al ((((w).alloc (.cells #[.slice A0 n0 k0,.slice A1 n1 k1,.slice A2 n2 k2] 28)).alloc (.cells #[.bool false] 4)).alloc (.cells #[.bool false] 4)) (.map #[] 0)
 have b5:=al (((((w).alloc (.cells #[.slice A0 n0 k0,.slice A1 n1 k1,.slice A2 n2 k2] 28)).alloc (.cells #[.bool false] 4)).alloc (.cells #[.bool false] 4)).alloc (.map #[] 0)) (.cells #[.map (some (w.heap.size+1+1+1))] 229)
 have b6:=al ((((((w).alloc (.cells #[.slice A0 n0 k0,.slice A1 n1 k1,.slice A2 n2 k2] 28)).alloc (.cells #[.bool false] 4)).alloc (.cells #[.bool false] 4)).alloc (.map #[] 0)).alloc (.cells #[.map (some (w.heap.size+1+1+1))] 229)) (.cells #[.func (.func 181) #[] #[.pointer (some ⟨w.heap.size,0,none⟩),.pointer (some ⟨w.heap.size+1+1+1+1,0,none⟩),.pointer (some ⟨w.heap.size+1,0,none⟩),.pointer (some ⟨w.heap.size+1+1+1+1+1,0,none⟩),.pointer (some ⟨w.heap.size+1+1,0,none⟩)]] 147)
 refine ⟨⟨?_,?_,?_,?_,?_,?_⟩,?_⟩
 ·exact ((((h1.below b2 h1.lt).below b3 (h1.below b2 h1.lt).lt).below b4 (by simp <;> omega)).below b5 (by simp <;> omega)).below b6 (by simp <;> omega)
 ·exact (((h2.below b3 h2.lt).below b4 (by simp <;> omega)).below b5 (by simp <;> omega)).below b6 (by simp <;> omega)
 ·exact ((h3.below b4 h3.lt).below b5 (by simp <;> omega)).below b6 (by simp <;> omega)
 ·exact (h4.below b5).below b6
 ·exact h5.below b6 h5.lt
 ·exact h6
 ·exact ((((((Below.refl _ _).alloc (Nat.le_refl _) _).alloc (by simp) _).alloc (by simp <;> omega) _).alloc (by simp <;> omega) _).alloc (by simp <;> omega) _).alloc (by simp <;> omega) _
theorem measure_any (A0:Option Addr) (n0 k0:Nat) (A1:Option Addr) (n1 k1:Nat) (A2:Option Addr) (n2 k2:Nat) (ms:List Mp) (w:World) (hA:Mps w A1 ms) (hn:ms.length=n1) (hst:StF ms) (hco:CodesOk ms) (hh:NoHg ms) (hbig:n1≤1048576) :
  Calls Tryz.prog 144 #[.agg #[.slice A0 n0 k0,.slice A1 n1 k1,.slice A2 n2 k2]] w (RetMeas ms w):=by
 subst hn
 have SZ:=Lib.hid (size_ok A0 n0 k0 A1 k1 A2 n2 k2 w.heap.size ms w rfl hA hst hco hbig)
 have OK:=Lib.hid (fun mk cyc lng=>MeasOk.of (mk:=mk) (cyc:=cyc) (lng:=lng) hst hh)
 have ON:=Lib.hid (fun i (hi:i < ms.length)=>(onM_frm hst hh true hi).trans (if_pos (.inl rfl)))
 have HH:=Lib.hid (fun i (hi:i < ms.length)=>show hk ms[i].frm=0 from by unfold hk;rw [hh i hi];rfl)
 have CO:=Lib.hid (fun i (hi:i < ms.length)=>(hco i hi).1)
 clear hst hco hh
 have hmm:=@run_makeMap Tryz.prog
 have hsf:=fun (W:World) (a:Addr) (m:Mode) (fn:Fn) (x y:Array Value)=>run_store Tryz.prog W a (.func fn x y) m rfl
 go_enter Tryz.func144,Tryz.ntmps144
 go_wp2_with fail
 obtain ⟨W0,hW0⟩:∃W0,(((((((w).alloc (.cells #[.slice A0 n0 k0,.slice A1 ms.length k1,.slice A2 n2 k2] 28)).alloc (.cells #[.bool false] 4)).alloc (.cells #[.bool false] 4)).alloc (.map #[] 0)).alloc (.cells #[.map (some (w.heap.size+1+1+1))] 229)).alloc (.cells #[.func (.func 181) #[] #[.pointer (some ⟨w.heap.size,0,none⟩),.pointer (some ⟨w.heap.size+1+1+1+1,0,none⟩),.pointer (some ⟨w.heap.size+1,0,none⟩),.pointer (some ⟨w.heap.size+1+1+1+1+1,0,none⟩),.pointer (some ⟨w.heap.size+1+1,0,none⟩)]] 147))=W0:=⟨_,rfl⟩
 obtain ⟨hM0,hB0⟩:=MS_new A0 n0 k0 A1 ms.length k1 A2 n2 k2 w
 rw [hW0] at hM0 hB0 ⊢
 clear hW0 hmm hsf
 have HM0:=Lib.hid hM0;clear hM0
 go_loopw [7,13] (fun _ u wr=>∃(i n:Nat) (mk:Int→Option Int) (cyc lng:Bool),i≤ms.length∧u=.int .i64 i∧MS A0 n0 k0 A1 ms.length k1 A2 n2 k2 w.heap.size wr n mk cyc lng∧DInv (onM ms true) capE mxE mk cyc lng∧(∀x,mk x≠some (-1))∧n+200*unmarked (fsM ms) mk≤200*ms.length∧
   (∀t,(ht:t < ms.length)→t < i→ms[t].toq≠[]→∃k,mk ms[t].frm=some k)∧Below w.heap.size w wr) (fun _ u _=>ms.length - (intOf u).toNat)
 case atStart=>
  refine ⟨0,0,_,false,false,Nat.zero_le _,rfl,HM0.out,DInv_none _ _ _,fun x h=>(by cases h),?_,fun t _ h=>absurd h (Nat.not_lt_zero _),hB0⟩
  have:=unmarked_len (fsM ms) (fun _=>none)
  unfold fsM at *
  rw [List.length_map] at this
  omega
 case round=>
  obtain ⟨i,n,mk,cyc,lng,hi,rfl,hMS,hDI,hfin,hpot,hmkd,hb⟩:=hrel
  have HMS:=Lib.hid hMS;have HDI:=Lib.hid hDI;have HFI:=Lib.hid hfin;have HPO:=Lib.hid hpot;have HMD:=Lib.hid hmkd
  clear hMS hDI hfin hpot hmkd
  by_cases hlt:i < ms.length
  ·obtain ⟨b,o,rfl,_,hcell⟩:=(hA.below hb).at hlt
   obtain ⟨E,d,c1,c2,c3,_,_⟩:=hcell i hlt
   clear hcell
   have HO:=Lib.hid (ON.out i hlt)
   have h0:=HH.out i hlt
   have hcd:=CO.out i hlt
   have HST:=Lib.hid (fun (mk':Int→Option Int) (he:DExt mk mk') (hm:ms[i].toq≠[]→∃k,mk' ms[i].frm=some k)=>show ∀t,(ht:t < ms.length)→t < i+1→ms[t].toq≠[]→∃k,mk' ms[t].frm=some k from fun t ht h1 h2=>by
    by_cases e:t=i
    ·subst e;exact hm h2
    ·obtain ⟨k,hk⟩:=HMD.out t ht (by omega) h2;exact ⟨k,he.old _ _ hk⟩)
   generalize ms[i].frm=f at *
   generalize ms[i].toq=toq at *
   generalize ms[i].tag=tg at *
   have hBa:Below wr.heap.size wr (wr.alloc (.cells #[.int .i64 f,.slice E toq.length d,.string tg] 154)):=(Below.refl _ _).alloc (Nat.le_refl _) _
   have hbW:=hb.trans (hBa.mono hb.size)
   have hMW:=HMS.out.below hBa
   have p5:(wr.alloc (.cells #[.int .i64 f,.slice E toq.length d,.string tg] 154)).cell? ⟨w.heap.size+1+1+1+1+1,0,none⟩=some (.func (.func 181) #[] #[.pointer (some ⟨w.heap.size,0,none⟩),.pointer (some ⟨w.heap.size+1+1+1+1,0,none⟩),.pointer (some ⟨w.heap.size+1,0,none⟩),.pointer (some ⟨w.heap.size+1+1+1+1+1,0,none⟩),.pointer (some ⟨w.heap.size+1+1,0,none⟩)]):=hMW.bS.cell rfl
   have q5:wr.cell? ⟨w.heap.size+1+1+1+1+1,0,none⟩=some (.func (.func 181) #[] #[.pointer (some ⟨w.heap.size,0,none⟩),.pointer (some ⟨w.heap.size+1+1+1+1,0,none⟩),.pointer (some ⟨w.heap.size+1,0,none⟩),.pointer (some ⟨w.heap.size+1+1+1+1+1,0,none⟩),.pointer (some ⟨w.heap.size+1+1,0,none⟩)]):=HMS.out.bS.cell rfl
   have CL:=Lib.hid (show Calls Tryz.prog 181 #[.int .i64 f,.pointer (some ⟨w.heap.size,0,none⟩),.pointer (some ⟨w.heap.size+1+1+1+1,0,none⟩),.pointer (some ⟨w.heap.size+1,0,none⟩),.pointer (some ⟨w.heap.size+1+1+1+1+1,0,none⟩),.pointer (some ⟨w.heap.size+1+1,0,none⟩)] (wr.alloc (.cells #[.int .i64 f,.slice E toq.length d,.string tg] 154))
     (SzRet A0 n0 k0 _ ms.length k1 A2 n2 k2 w.heap.size ms f (wr.alloc (.cells #[.int .i64 f,.slice E toq.length d,.string tg] 154)) n mk cyc) from
    SZ.out (2*unmarked (fsM ms) mk+1) f _ n mk cyc lng (by omega) hcd HDI.out (fun x h=>absurd h (HFI.out x)) hMW hbW (by have:=HPO.out;omega))
   clear hMW hBa
   go_wp2_with fail
   with_reducible refine CL.out.mono ?_
   rintro e W ⟨v,n',mk',cyc',lng',rfl,hp⟩
   have hbN:=hbW.trans hp.bel
   have RL:=Lib.hid (show MS A0 n0 k0 _ ms.length k1 A2 n2 k2 w.heap.size W n' mk' cyc' lng'∧DInv (onM ms true) capE mxE mk' cyc' lng'∧(∀x,mk' x≠some (-1))∧n'+200*unmarked (fsM ms) mk'≤200*ms.length∧(∀t,(ht:t < ms.length)→t < i+1→ms[t].toq≠[]→∃k,mk' ms[t].frm=some k) from
    ⟨hp.st,hp.inv,fun x=>by
     cases hx:mk x with
     | none=>exact hp.ext.new x hx
     | some k=>intro h;have:=hp.ext.old x k hx;rw [h] at this;injection this with this;subst this;exact HFI.out x hx,
    by have:=hp.pot;have:=HPO.out;omega,HST.out mk' hp.ext (fun hne=>hp.mkd toq HO.out hne)⟩)
   clear hp CL p5 q5
   go_wp2_with fail
   go_roundw
   case rel=>exact ⟨i+1,n',mk',cyc',lng',by omega,by go_num,RL.out.1,RL.out.2.1,RL.out.2.2.1,RL.out.2.2.2.1,RL.out.2.2.2.2,hbN⟩
   case measure=>simp [intOf];omega
  ·obtain rfl:i=ms.length:=by omega
   have MO:=Lib.hid (OK.out mk cyc lng HDI.out HFI.out (fun t ht h=>HMD.out t ht ht h))
   have e1:wr.cell? ⟨w.heap.size+1,0,none⟩=some (.bool cyc):=HMS.out.bC.cell rfl
   have e2:wr.cell? ⟨w.heap.size+1+1,0,none⟩=some (.bool lng):=HMS.out.bL.cell rfl
   have e3:wr.frozen? ⟨w.heap.size+1,0,none⟩=false:=HMS.out.bC.free 0
   have e4:wr.frozen? ⟨w.heap.size+1+1,0,none⟩=false:=HMS.out.bL.free 0
   go_wp2_with fail
   go_region
   all_goals
    go_wp2_with fail
    (try simp only [Exit.inBlock,Exit.then])
    refine bodyPost_ret (results_cell2 rfl _ _ _ rfl rfl (load_bool _ _ cyc ?_) (load_bool _ _ lng ?_)) rfl ?_
    ·go_simp
    ·go_simp
    ·exact ⟨cyc,lng,rfl,MO.out,((hb.setCell (by simp) _).setCell (by simp;omega) _).drew⟩
end Go.Proofs.YtkhmjidaeliccaaGreatDoor
namespace Go.Proofs.YtkhmjidaeliccaaGreatDoor
open Go.RowKit Go.Maps Go.WideMaps
theorem neq_rg (a b c d:Int) (w:World):(binOp .neq 179 (.agg #[.int .i64 a,.int .i64 b]) (.agg #[.int .i64 c,.int .i64 d])).run Tryz.prog w=.ok (.bool (!decide ((⟨a,b⟩:Rg)=⟨c,d⟩))) w:=by
 have u3:=Tryz.underlying3
 have a3:=Tryz.isAgg3
 have z3:=Tryz.sizeOf3
 have hS:Tryz.prog.underlying 179=some (.struct (Tryz.prog.fieldsOf 179)):=by kernel_rfl
 have hp:Tryz.prog.stoodInHeld 179=false:=by kernel_rfl
 rw [run_neq_struct,show (10000:Nat)=9999+1 from rfl,run_equalIn_agg w 9999 179 _ _ hS hp]
 simp only [Program.fieldsOf,Tryz.underlying179]
 go_simp
 by_cases h2:a=c <;> by_cases h3:b=d <;> simp [h2,h3]
theorem sameR_len {xs ys:List Rg} (h:xs.length≠ys.length):decide (xs=ys)=false:=by simp;exact fun e=>h (by rw [e])
theorem sameR_ne {xs ys:List Rg} {k:Nat} (h1:k < xs.length) (h2:k < ys.length) (h:¬xs[k]=ys[k]):decide (xs=ys)=false:=by simp;rintro rfl;exact h rfl
theorem sameR_eq {xs ys:List Rg} (hl:xs.length=ys.length) (h:∀t,(h1:t < xs.length)→(h2:t < ys.length)→xs[t]=ys[t]):decide (xs=ys)=true:=by simp;exact List.ext_getElem hl h
theorem canR_len (rs:List Rg):(canR rs).length≤2*rs.length+2:=by
 unfold canR
 have h1:=bld_len (p:=hasR rs) (cs:=cutsL (cutsL [] rs) []) (cutsL (cutsL [] rs) []).length
 have h2:(cutsL (cutsL [] rs) []).length≤(cutsL [] rs).length+2*0+1:=cuts_len [] (cutsL [] rs)
 have h3:(cutsL [] rs).length≤0+2*rs.length+1:=cuts_len rs []
 omega
theorem len64_any (n:Nat) (h:n≤12) (w:World):Calls Tryz.prog 220 #[.int .u64 n] w (fun e w'=>(∃z:Int,e=.returned (.int .i64 z))∧w=w'):=by
 obtain rfl | rfl | rfl | rfl | rfl | rfl | rfl | rfl | rfl | rfl | rfl | rfl | rfl:n=0∨n=1∨n=2∨n=3∨n=4∨n=5∨n=6∨n=7∨n=8∨n=9∨n=10∨n=11∨n=12:=by omega
 all_goals
  go_enter Tryz.func220,Tryz.ntmps220
  go_wp2
  go_ret
  exact ⟨⟨_,rfl⟩,rfl⟩
end Go.Proofs.YtkhmjidaeliccaaGreatDoor
namespace Go.Proofs.YtkhmjidaeliccaaGreatDoor
open Go.RowKit Go.Maps Go.WideMaps
theorem len_any (n:Nat) (h:n≤12) (w:World):Calls Tryz.prog 208 #[.int .u64 n] w (fun e w'=>(∃z:Int,e=.returned (.int .i64 z))∧w=w'):=by
 have LC:=Lib.hid (len64_any n h w)
 go_enter Tryz.func208,Tryz.ntmps208
 go_wp2_with fail
 refine LC.out.mono ?_
 rintro e w' ⟨⟨z,rfl⟩,rfl⟩
 go_wp2_with fail
 go_ret
 exact ⟨⟨_,rfl⟩,rfl⟩
theorem sortR_any (base g n c:Nat) (d:List Rg) (w:World) (hR:RRow w base g n c d) (hbig:n≤12) (hok:∀x ∈ d,clipOk x) :
  Calls Tryz.prog 197 #[.slice (some ⟨g,0,none⟩) n c,.func (.func 198) #[] #[]] w (RetR (fun d'=>Srt.Done rkey d d' 0 n) base g n c w):=by
 have LC:=Lib.hid (len_any n hbig w)
 have PC:=Lib.hid (fun z=>pdqR_any base g n c z d w hR hbig hok)
 have hu:IntKind.u64.wrap (n:Int)=(n:Int):=by rw [IntKind.wrap_u64];omega
 clear hR hok
 go_enter Tryz.func197,Tryz.ntmps197
 go_wp2_with fail
 refine LC.out.mono ?_
 rintro e w' ⟨⟨z,rfl⟩,rfl⟩
 go_wp2_with fail
 refine (PC.out z).mono ?_
 rintro e w1 ⟨rfl,d1,hD,hR1,hg1⟩
 have HD:=Lib.hid (And.intro hD (And.intro hR1 hg1))
 clear hD hR1 hg1
 go_wp2_with fail
 go_end0
 exact ⟨rfl,d1,HD.out.1,HD.out.2.1,HD.out.2.2⟩
def RetNone (w:World) (e:Ending) (w':World):Prop:=e=.returned (.tuple #[])∧w=w'
theorem insertR_zero (S:Option Addr) (n c:Nat) (hn:n≤0) (w:World):Calls Tryz.prog 211 #[.slice S n c,.int .i64 0,.int .i64 n,.func (.func 198) #[] #[]] w (RetNone w):=by
 have HN:=Lib.hid hn
 clear hn
 go_enter Tryz.func211,Tryz.ntmps211
 go_wp2
 go_loop [8] (fun i=>∃k:Nat,k=1∧i=.int .i64 k) (fun _=>0)
 case atStart=>exact ⟨1,rfl,rfl⟩
 case round=>
  obtain ⟨k,hk,rfl⟩:=hrel
  have hk1:¬k < n:=by have:=HN.out;omega
  clear hk HN
  go_wp2
  go_end0
  exact ⟨rfl,rfl⟩
theorem pdqR_zero (S:Option Addr) (n c:Nat) (hn:n≤0) (z:Int) (w:World):Calls Tryz.prog 207 #[.slice S n c,.int .i64 0,.int .i64 n,.int .i64 z,.func (.func 198) #[] #[]] w (RetNone w):=by
 have C:=Lib.hid (insertR_zero S n c hn w)
 have q1:decide ((n:Int)≤12)=true:=by simp;omega
 have q2:decide (n≤12)=true:=by simp;omega
 have hbig:n≤12:=by omega
 clear hn
 go_enter Tryz.func207,Tryz.ntmps207
 go_wp2_with fail
 refine wp_loop_rounds 1 ?_
 rw [rounds_succ]
 go_wp2_with fail
 refine C.out.mono ?_
 rintro e w1 ⟨rfl,hw⟩
 have HW:=Lib.hid hw
 clear hw
 go_wp2_with fail
 go_end0
 exact ⟨rfl,HW.out⟩
theorem sortR_zero (S:Option Addr) (n c:Nat) (hn:n≤0) (w:World):Calls Tryz.prog 197 #[.slice S n c,.func (.func 198) #[] #[]] w (RetNone w):=by
 have LC:=Lib.hid (len_any n (by omega) w)
 have PC:=Lib.hid (fun z=>pdqR_zero S n c hn z w)
 have hu:IntKind.u64.wrap (n:Int)=(n:Int):=by rw [IntKind.wrap_u64];omega
 have hbig:n≤12:=by omega
 clear hn
 go_enter Tryz.func197,Tryz.ntmps197
 go_wp2_with fail
 refine LC.out.mono ?_
 rintro e w' ⟨⟨z,rfl⟩,rfl⟩
 go_wp2_with fail
 refine (PC.out z).mono ?_
 rintro e w1 ⟨rfl,rfl⟩
 go_wp2_with fail
 go_end0
 exact ⟨rfl,rfl⟩
theorem anyR_congr {xs ys:List Rg} (h:∀r,r ∈ xs ↔ r ∈ ys) (c:Int):anyR xs c=true ↔ anyR ys c=true:=by
 rw [anyR_iff,anyR_iff]
 exact ⟨fun ⟨r,hr,h1⟩=>⟨r,(h r).1 hr,h1⟩,fun ⟨r,hr,h1⟩=>⟨r,(h r).2 hr,h1⟩⟩
theorem canR_of {rs ds out:List Rg} {b:Int} (hst:Srt.St rkey (clipL rs) ds) (hm:Mg ds out b):out=canR rs:=
 canR_unique hm.ok (fun c c0 c1=>by
  rw [hm.any c,anyR_congr (ys:=clipL rs) (fun r=>⟨fun h=>St_memR hst h,fun h=>St_memR' hst h⟩) c]
  exact clipL_any c0 c1)
theorem sorted_lo {ds:List Rg} {n:Nat} (hs:Srt.SortedOn rkey ds 0 n) (hok:∀r ∈ ds,clipOk r) (hn:ds.length=n) {i t:Nat} (hit:i < t) (ht:t < ds.length):(ds[i]'(by omega)).lo≤ds[t].lo:=by
 have h1:=hs i t (by omega) hit (by omega)
 rw [Srt.kf_some (List.getElem?_eq_getElem (show i < ds.length by omega)),Srt.kf_some (List.getElem?_eq_getElem ht)] at h1
 have a:=hok _ (List.getElem_mem (show i < ds.length by omega))
 have b:=hok _ (List.getElem_mem ht)
 unfold rkey at h1
 unfold clipOk at a b
 omega
section
variable {out:List Rg} {q:Rg}
theorem mrg_app {k:Nat} (hk:out.length=k+1) {x:Rg} (hx:out[k]?=some x) (h:¬q.lo≤x.hi+1):mrg out q=out++[q]:=by
 unfold mrg
 have:out.getLast?=some x:=by rw [List.getLast?_eq_getElem?,hk];simpa using hx
 rw [this]
 simp [h]
theorem mrg_set {k:Nat} (hk:out.length=k+1) {x:Rg} (hx:out[k]?=some x) (h:q.lo≤x.hi+1):mrg out q=out.set k ⟨x.lo,max x.hi q.hi⟩:=by
 unfold mrg
 have:out.getLast?=some x:=by rw [List.getLast?_eq_getElem?,hk];simpa using hx
 rw [this]
 simp only [h,if_true]
 rw [growL_set hk]
 have e:out[k]'(by omega)=x:=(List.getElem?_eq_some_iff.1 hx).2
 rw [e]
end
theorem results_pmake (tmps:Array Value) (w:World) {b:Nat} {v0:Value} (ha:tmps.getD 2 undef=.pointer (some ⟨b,0,none⟩)) (c0:w.cell? ⟨b,0,none⟩=some v0) :
  (results Tryz.f179 tmps).run Tryz.prog w=.ok (.agg #[v0]) w:=by
 have hr:Tryz.f179.results=#[.cell 2 26]:=rfl
 unfold results
 rw [hr]
 simp only [ha,List.mapM_toArray,List.mapM_cons,List.mapM_nil,asAddr]
 go_simp
theorem cpMake_any (A:Option Addr) (n a:Nat) (rs:List Rg) (w:World) (hA:Rgs w A rs) (hn:rs.length=n) (hz:n≤12) :
  Calls Tryz.prog 179 #[.slice A n a] w (RetSet (canR rs) w):=by
 subst hn
 have B0:Below w.heap.size w (w.alloc (.cells #[.slice none 0 0] 26)):=(Below.refl _ _).alloc (Nat.le_refl _) _
 have X0:Box (w.alloc (.cells #[.slice none 0 0] 26)) w.heap.size 26 [.slice none 0 0]:=Box.new _ _ _ rfl
 have s0:(w.alloc (.cells #[.slice none 0 0] 26)).heap.size=w.heap.size+1:=by simp
 have W0E:∃W0,(w.alloc (.cells #[.slice none 0 0] 26))=W0:=⟨_,rfl⟩
 have HA:=Lib.hid hA
 have HCO:=Lib.hid (fun ds out b h1 h2=>canR_of (rs:=rs) (ds:=ds) (out:=out) (b:=b) h1 h2)
 have HCL:=Lib.hid (clipL_ok rs)
 have hcl:=clipL_len rs
 generalize canR rs=R at *
 clear hA
 go_enter Tryz.func179,Tryz.ntmps179
 go_wp2_with fail
 obtain ⟨W0,hW0⟩:=W0E
 rw [hW0] at B0 X0 s0 ⊢
 clear hW0
 have HNIL:=Lib.hid (show W0.ownsRow W0.heap.size 179 2 (.slice none 0 0) 0 ([]:List Value) from World.ownsRow_nil _ _ _ _)
 have C0:=Lib.hid (show clipL (rs.take 0)=[] from rfl)
 go_loopw [3,13] (fun v u wr=>∃(i:Nat) (S:Option Addr) (k:Nat),i≤rs.length∧u=.int .i64 i∧v=.slice S (clipL (rs.take i)).length k∧wr.ownsRow W0.heap.size 179 2 (.slice S (clipL (rs.take i)).length k) (clipL (rs.take i)).length (flatK Rg.cells (clipL (rs.take i)))∧Below W0.heap.size W0 wr) (fun _ u _=>rs.length - (intOf u).toNat)
 case atStart=>exact ⟨0,none,0,Nat.zero_le _,rfl,by rw [C0.out];rfl,by rw [C0.out];exact HNIL.out,Below.refl _ _⟩
 case round=>
  obtain ⟨i,S,k,hi,rfl,rfl,hown,hbr⟩:=hrel
  have HOWN:=Lib.hid hown
  clear hown HNIL C0
  have hbw:=B0.trans (hbr.mono B0.size)
  have hcli:(clipL (rs.take i)).length≤i:=Nat.le_trans (clipL_len _) (List.length_take_le _ _)
  by_cases hlt:i < rs.length
  ·obtain ⟨b1,o1,rfl,hbl,hcell⟩:=(HA.out.below hbw).at hlt
   obtain ⟨c1,c2⟩:=hcell i hlt
   have CT:=Lib.hid (clipL_take hlt)
   have CP:=Lib.hid (show clip1 rs[i]=⟨max rs[i].lo 0,min rs[i].hi 1114111⟩ from rfl)
   clear hcell
   generalize hcc:clip1 rs[i]=cr at *
   clear hcc
   generalize rs[i]=ri at *
   generalize hL0:clipL (rs.take i)=L0 at *
   clear hL0
   obtain ⟨rlo,rhi⟩:=ri
   obtain ⟨pl,ph⟩:=cr
   dsimp only at *
   have e0:=CP.out
   injection e0 with e1 e2
   have em:(if rlo < 0 then (0:Int) else rlo)=pl:=by rw [e1];split <;> omega
   have eM:(if 1114111 < rhi then (1114111:Int) else rhi)=ph:=by rw [e2];split <;> omega
   have em2:max rlo 0=pl:=by omega
   have eM2:min rhi 1114111=ph:=by omega
   clear e1 e2 CP
   have hn1:¬b1=wr.heap.size:=by omega
   have Bp:Below wr.heap.size wr ((wr.alloc (.cells #[.int .i64 rlo,.int .i64 rhi] 179)).alloc (.cells #[.int .i64 pl,.int .i64 ph] 179)):=((Below.refl _ _).alloc (Nat.le_refl _) _).alloc (by simp) _
   by_cases hp:pl≤ph
   ·have q1:decide (pl≤ph)=true:=by simpa using hp
    have ct:=CT.out
    rw [if_pos hp] at ct
    have HCT:=Lib.hid ct
    have Bq:Below wr.heap.size wr (((wr.alloc (.cells #[.int .i64 rlo,.int .i64 rhi] 179)).alloc (.cells #[.int .i64 pl,.int .i64 ph] 179)).alloc (.cells #[.int .i64 pl,.int .i64 ph] 179)):=Bp.alloc Bp.size _
    have HOP:=Lib.hid (own_keep HOWN.out Bq)
    have szp:W0.heap.size≤(((wr.alloc (.cells #[.int .i64 rlo,.int .i64 rhi] 179)).alloc (.cells #[.int .i64 pl,.int .i64 ph] 179)).alloc (.cells #[.int .i64 pl,.int .i64 ph] 179)).heap.size:=Nat.le_trans hbr.size Bq.size
    have hb9:=hbr.trans (Bq.mono hbr.size)
    clear CT ct HOWN Bp Bq
    go_wp2_with (at_builtin;refine wpList_app _ _ 24 179 (.agg #[.int .i64 0,.int .i64 0]) 2 16 rfl rfl Tryz.underlying24 info_rg rfl (by decide) (by decide) rfl HOP.out rfl (Sl_new _ (Rg.cells ⟨pl,ph⟩) _ (by simp)) rfl (oneCell_rg _) (by omega) szp ?_;intro A7 c7 w7 hown7 hc7 hb7 _ _;have HO7:=Lib.hid hown7;clear hown7)
    go_roundw
    case rel=>exact ⟨i+1,A7,c7,by omega,by go_num,by rw [HCT.out,List.length_append];rfl,by rw [HCT.out,List.length_append,flatK_append];exact HO7.out,hb9.trans hb7⟩
    case measure=>simp [intOf];omega
   ·have q1:decide (pl≤ph)=false:=by simpa using hp
    have ct:=CT.out
    rw [if_neg hp,List.append_nil] at ct
    have HCT:=Lib.hid ct
    have HOP:=Lib.hid (own_keep HOWN.out Bp)
    have hb9:=hbr.trans (Bp.mono hbr.size)
    clear CT ct HOWN Bp
    go_wp2_with fail
    go_roundw
    case rel=>exact ⟨i+1,S,k,by omega,by go_num,by rw [HCT.out],by rw [HCT.out];exact HOP.out,hb9⟩
    case measure=>simp [intOf];omega
  ·rw [List.take_of_length_le (show rs.length≤i by omega)] at HOWN ⊢
   clear hcli
   have SRT:=Lib.hid (show Calls Tryz.prog 197 #[.slice S (clipL rs).length k,.func (.func 198) #[] #[]] wr (fun e w'=>e=.returned (.tuple #[])∧∃ds,ds.length=(clipL rs).length∧Srt.St rkey (clipL rs) ds∧Srt.SortedOn rkey ds 0 (clipL rs).length∧Rgs w' S ds∧Below W0.heap.size W0 w') by
    rcases Nat.eq_zero_or_pos (clipL rs).length with h0 | h0
    ·have hnil:clipL rs=[]:=List.length_eq_zero_iff.1 h0
     exact (sortR_zero S (clipL rs).length k (by omega) wr).mono (fun e w' ⟨he,hw⟩=>⟨he,[],by rw [hnil],by rw [hnil];exact Srt.St.refl _,Srt.SortedOn.short (by omega),Sl.nil _ _,by subst hw;exact hbr⟩)
    ·have ho:=HOWN.out
     obtain ⟨g,hS⟩:∃g,S=some ⟨g,0,none⟩:=by
      rcases ho.2 with ⟨_,h1⟩ | ⟨g,cap,cur,hv',_⟩
      ·omega
      ·injection hv' with hA' _ _;exact ⟨g,hA'⟩
     subst hS
     have hg0:W0.heap.size≤g:=(ho.lt g rfl).1
     refine (sortR_any W0.heap.size g (clipL rs).length k (clipL rs) wr ho (by omega) HCL.out).mono (fun e w' ⟨he,d1,hD,hR1,hg1⟩=>⟨he,d1,hR1.len,hD.2.1,hD.2.2,Sl.of_own hR1,below_grown hbr hg1 hg0 hbr.size⟩))
   clear HOWN
   generalize hcl0:clipL rs=cl at *
   clear hcl0
   go_wp2_with fail
   with_reducible refine SRT.out.mono ?_
   rintro e W2 ⟨rfl,ds,hdl,hst,hso,hds,hb2⟩
   have HDS:=Lib.hid hds
   have HST:=Lib.hid hst
   have HDL:=Lib.hid hdl
   have HOK:=Lib.hid (show ∀r ∈ ds,clipOk r from fun r hr=>HCL.out r (St_memR hst hr))
   have HLO:=Lib.hid (show ∀i t,(hit:i < t)→(ht:t < ds.length)→(ds[i]'(by omega)).lo≤ds[t].lo from fun i t hit ht=>sorted_lo hso (fun r hr=>HCL.out r (St_memR hst hr)) hdl (i:=i) (t:=t) hit ht)
   rw [←hdl]
   have hdz:ds.length≤12:=by omega
   clear SRT hds hst hso hdl
   have HNIL:=Lib.hid (show W2.ownsRow W2.heap.size 179 2 (.slice none 0 0) 0 ([]:List Value) from World.ownsRow_nil _ _ _ _)
   have hb3:=B0.trans (hb2.mono B0.size)
   go_wp2_with fail
   go_loopw [7,38] (fun v u wr=>∃(i:Nat) (S:Option Addr) (k:Nat) (out:List Rg) (b:Int),i≤ds.length∧u=.int .i64 i∧v=.slice S out.length k∧wr.ownsRow W2.heap.size 179 2 (.slice S out.length k) out.length (flatK Rg.cells out)∧out.length≤i∧Mg (ds.take i) out b∧(∀t,(ht:t < ds.length)→i≤t→b≤ds[t].lo)∧Below W2.heap.size W2 wr) (fun _ u _=>ds.length - (intOf u).toNat)
   case atStart=>exact ⟨0,none,0,[],0,Nat.zero_le _,rfl,rfl,HNIL.out,Nat.le_refl _,Mg.nil 0,fun t ht _=>(HOK.out _ (List.getElem_mem ht)).1,Below.refl _ _⟩
   case round=>
    obtain ⟨i,S',k',out,b,hi,rfl,rfl,hown,hol,hMg,hbl',hbr2⟩:=hrel
    have HOWN:=Lib.hid hown;have HMG:=Lib.hid hMg;have HBL:=Lib.hid hbl'
    clear hown hMg hbl' HNIL
    by_cases hlt:i < ds.length
    ·obtain ⟨b1,o1,rfl,hbl,hcell⟩:=(HDS.out.below hbr2).at hlt
     obtain ⟨c1,c2⟩:=hcell i hlt
     have hclip:=HOK.out ds[i] (List.getElem_mem hlt)
     have HMS:=Lib.hid (show Mg (ds.take (i+1)) (mrg out ds[i]) ds[i].lo by rw [List.take_succ_eq_append_getElem hlt];exact HMG.out.step (HBL.out i hlt (Nat.le_refl _)) hclip)
     have HBS:=Lib.hid (show ∀t,(ht:t < ds.length)→i+1≤t→ds[i].lo≤ds[t].lo from fun t ht hit=>HLO.out i t (by omega) ht)
     have MO:=Lib.hid (fun hk x hx h=>mrg_app (out:=out) (q:=ds[i]'hlt) (k:=out.length - 1) hk (x:=x) hx h)
     have MS:=Lib.hid (fun hk x hx h=>mrg_set (out:=out) (q:=ds[i]'hlt) (k:=out.length - 1) hk (x:=x) hx h)
     have MN:=Lib.hid (fun (h:out=[])=>show mrg out ds[i]=out++[ds[i]] by subst h;rfl)
     have HOO:=Lib.hid HMG.out.ok.1
     clear hcell HMG HBL
     generalize mrg out ds[i]=M1 at *
     generalize ds[i]=q at *
     obtain ⟨qlo,qhi⟩:=q
     dsimp only at *
     unfold clipOk at hclip
     dsimp only at hclip
     have Ba:Below wr.heap.size wr (wr.alloc (.cells #[.int .i64 qlo,.int .i64 qhi] 179)):=(Below.refl _ _).alloc (Nat.le_refl _) _
     have sa:(wr.alloc (.cells #[.int .i64 qlo,.int .i64 qhi] 179)).heap.size=wr.heap.size+1:=by simp
     have x0:(wr.alloc (.cells #[.int .i64 qlo,.int .i64 qhi] 179)).cell? ⟨wr.heap.size,0,none⟩=some (.int .i64 qlo):=by simp
     have x1:(wr.alloc (.cells #[.int .i64 qlo,.int .i64 qhi] 179)).cell? ⟨wr.heap.size,1,none⟩=some (.int .i64 qhi):=by simp
     have HOA:=Lib.hid (own_keep HOWN.out Ba)
     have HGW:=Lib.hid (show ∀g,S'=some ⟨g,0,none⟩→g < wr.heap.size from fun g e=>(HOWN.out.lt g (by rw [e];rfl)).2)
     have hb4:=hbr2.trans (Ba.mono hbr2.size)
     have WaE:∃Wa,wr.alloc (.cells #[.int .i64 qlo,.int .i64 qhi] 179)=Wa:=⟨_,rfl⟩
     have hn1:¬b1=wr.heap.size:=by omega
     clear HOWN
     go_wp2_with fail
     obtain ⟨Wa,hWa⟩:=WaE
     rw [hWa] at Ba sa x0 x1 HOA hb4 ⊢
     clear hWa c1 c2
     rcases Nat.eq_zero_or_pos out.length with hl0 | hl0
     ·have hnil:out=[]:=List.length_eq_zero_iff.1 hl0
      obtain rfl:=MN.out hnil
      have q0:decide ((0:Int) < (out.length:Int))=false:=by simp [hnil]
      have q00:decide (0 < out.length)=false:=by simp [hnil]
      clear MN MO MS hnil hl0
      go_quiet (fail)
      have x0q:(Wa.drewN nq).cell? ⟨wr.heap.size,0,none⟩=some (.int .i64 qlo):=x0
      have x1q:(Wa.drewN nq).cell? ⟨wr.heap.size,1,none⟩=some (.int .i64 qhi):=x1
      have HOQ:=Lib.hid (show (Wa.drewN nq).ownsRow W2.heap.size 179 2 (.slice S' out.length k') out.length (flatK Rg.cells out) from HOA.out)
      have hb5:=below_drewN hb4 nq
      have hxq:wr.heap.size < (Wa.drewN nq).heap.size:=by show wr.heap.size < Wa.heap.size;omega
      clear HOA hb4 sa x0 x1
      generalize Wa.drewN nq=Wq at *
      have Bq:Below Wq.heap.size Wq (Wq.alloc (.cells #[.int .i64 qlo,.int .i64 qhi] 179)):=(Below.refl _ _).alloc (Nat.le_refl _) _
      have HOP:=Lib.hid (own_keep HOQ.out Bq)
      have hb6:=hb5.trans (Bq.mono hb5.size)
      have szp:W2.heap.size≤(Wq.alloc (.cells #[.int .i64 qlo,.int .i64 qhi] 179)).heap.size:=hb6.size
      clear HOQ Bq
      go_wp2_with (at_builtin;refine wpList_app _ _ 24 179 (.agg #[.int .i64 0,.int .i64 0]) 2 16 rfl rfl Tryz.underlying24 info_rg rfl (by decide) (by decide) rfl HOP.out rfl (Sl_new _ (Rg.cells ⟨qlo,qhi⟩) _ rfl) rfl (oneCell_rg _) (by omega) szp ?_;intro A7 c7 w7 hown7 hc7 hb7 _ _;have HO7:=Lib.hid hown7;clear hown7)
      go_roundw
      case rel=>exact ⟨i+1,A7,c7,out++[⟨qlo,qhi⟩],qlo,by omega,by go_num,by rw [List.length_append];rfl,by rw [List.length_append,flatK_append];exact HO7.out,by rw [List.length_append];simp;omega,HMS.out,HBS.out,hb6.trans hb7⟩
      case measure=>simp [intOf];omega
     ·obtain ⟨j,hj⟩:∃j,out.length=j+1:=⟨out.length - 1,by omega⟩
      have hjx:j < out.length:=by omega
      have MO:=Lib.hid (fun (x:Rg) (hx:out[j]?=some x) (h:¬qlo≤x.hi+1)=>MO.out (by omega) x (by rw [show out.length - 1=j by omega];exact hx) (by omega))
      have MS:=Lib.hid (fun (x:Rg) (hx:out[j]?=some x) (h:qlo≤x.hi+1)=>(MS.out (by omega) x (by rw [show out.length - 1=j by omega];exact hx) (by omega)))
      obtain ⟨y,hy⟩:=get_of_ltR hjx
      have hyo:=HOO.out y (List.mem_of_getElem? hy)
      unfold clipOk at hyo
      obtain ⟨g,hS⟩:∃g,S'=some ⟨g,0,none⟩:=by
       rcases HOA.out.2 with ⟨_,h1⟩ | ⟨g,cap,cur,hv',_⟩
       ·omega
       ·injection hv' with hA' _ _;exact ⟨g,hA'⟩
      subst hS
      have gO:W2.heap.size≤g:=(HOA.out.lt g rfl).1
      have gl:g < Wa.heap.size:=(HOA.out.lt g rfl).2
      have y1:Wa.cell? ⟨g,j*2+1,none⟩=some (.int .i64 y.hi):=by
       rw [World.ownsRow.cellAt HOA.out (j*2+1) (by omega),flatK_get Rg.cells 2 (fun _=>rfl) out j 1 hjx (by omega),(List.getElem?_eq_some_iff.1 hy).2]
       rfl
      have f1:=World.ownsRow.frozenAt HOA.out (j*2+1)
      have HY:=Lib.hid hy
      have HJ:=Lib.hid hj
      have i0:decide ((0:Int) < (out.length:Int))=true:=by simp;omega
      have i1:IntKind.i64.wrap ((out.length:Int) - 1)=(j:Int):=by rw [IntWalk.i64_in _ (by omega)];omega
      have i2:(0:Int)≤(j:Int):=by omega
      have i3:((j:Int)).toNat=j:=by omega
      have i4:(j:Int) < (out.length:Int):=by omega
      have i5:IntKind.i64.wrap (y.hi+1)=y.hi+1:=IntWalk.i64_in _ (by omega)
      have yhi:=hyo
      clear hy hj MN
      have HGB:=Lib.hid (show g < wr.heap.size from HGW.out g rfl)
      by_cases hm:qlo≤y.hi+1
      ·have q1:decide (qlo≤y.hi+1)=true:=by simpa using hm
       have HMS2:=Lib.hid (MS.out y HY.out hm)
       clear MO MS
       go_quiet (fail)
       have x0q:(Wa.drewN nq).cell? ⟨wr.heap.size,0,none⟩=some (.int .i64 qlo):=x0
       have x1q:(Wa.drewN nq).cell? ⟨wr.heap.size,1,none⟩=some (.int .i64 qhi):=x1
       have HOQ:=Lib.hid (show (Wa.drewN nq).ownsRow W2.heap.size 179 2 (.slice (some ⟨g,0,none⟩) out.length k') out.length (flatK Rg.cells out) from HOA.out)
       have hb5:=below_drewN hb4 nq
       have hxq:wr.heap.size < (Wa.drewN nq).heap.size:=by show wr.heap.size < Wa.heap.size;omega
       clear HOA hb4 sa x0 x1
       have y1q:(Wa.drewN nq).cell? ⟨g,j*2+1,none⟩=some (.int .i64 y.hi):=y1
       have f1q:(Wa.drewN nq).frozen? ⟨g,j*2+1,none⟩=false:=f1
       clear y1 f1
       generalize Wa.drewN nq=Wq at *
       have hgne:¬g=wr.heap.size:=by have:=HGB.out;omega
       obtain ⟨mx,hmx2⟩:∃m,max y.hi qhi=m:=⟨_,rfl⟩
       have hmx:(if y.hi < qhi then qhi else y.hi)=mx:=by rw [←hmx2];split <;> omega
       go_wp2_with fail
       go_region
       all_goals
        have st:=World.ownsRow.stored HOQ.out (j*2+1) (.int .i64 mx)
        rw [flatR_sethi out j _ HY.out] at st
        have HST2:=Lib.hid st.1
        have hbs:=hb5.setCell (p:=⟨g,j*2+1,none⟩) gO (.int .i64 mx)
        have HMX:=Lib.hid hmx2
        clear st hmx hmx2
        go_wp2_with fail
        go_roundw
        case rel=>
         have e0:out.length - 1=j:=by have:=HJ.out;omega
         have e1:=HMS2.out
         rw [e0] at e1
         subst e1
         refine ⟨i+1,some ⟨g,0,none⟩,k',out.set j ⟨y.lo,max y.hi qhi⟩,qlo,by omega,by go_num,by rw [List.length_set],?_,by rw [List.length_set];omega,HMS.out,HBS.out,hbs.drew⟩
         rw [List.length_set,HMX.out]
         exact HST2.out
        case measure=>simp [intOf];omega
      ·have q1:decide (qlo≤y.hi+1)=false:=by simpa using hm
       obtain rfl:=MO.out y HY.out hm
       clear MO MS
       go_quiet (fail)
       clear i0 i1 i2 i3 i4 i5 y1 f1
       have x0q:(Wa.drewN nq).cell? ⟨wr.heap.size,0,none⟩=some (.int .i64 qlo):=x0
       have x1q:(Wa.drewN nq).cell? ⟨wr.heap.size,1,none⟩=some (.int .i64 qhi):=x1
       have HOQ:=Lib.hid (show (Wa.drewN nq).ownsRow W2.heap.size 179 2 (.slice (some ⟨g,0,none⟩) out.length k') out.length (flatK Rg.cells out) from HOA.out)
       have hb5:=below_drewN hb4 nq
       have hxq:wr.heap.size < (Wa.drewN nq).heap.size:=by show wr.heap.size < Wa.heap.size;omega
       clear HOA hb4 sa x0 x1
       generalize Wa.drewN nq=Wq at *
       have Bq:Below Wq.heap.size Wq (Wq.alloc (.cells #[.int .i64 qlo,.int .i64 qhi] 179)):=(Below.refl _ _).alloc (Nat.le_refl _) _
       have HOP:=Lib.hid (own_keep HOQ.out Bq)
       have hb6:=hb5.trans (Bq.mono hb5.size)
       have szp:W2.heap.size≤(Wq.alloc (.cells #[.int .i64 qlo,.int .i64 qhi] 179)).heap.size:=hb6.size
       clear HOQ Bq
       go_wp2_with (at_builtin;refine wpList_app _ _ 24 179 (.agg #[.int .i64 0,.int .i64 0]) 2 16 rfl rfl Tryz.underlying24 info_rg rfl (by decide) (by decide) rfl HOP.out rfl (Sl_new _ (Rg.cells ⟨qlo,qhi⟩) _ rfl) rfl (oneCell_rg _) (by omega) szp ?_;intro A7 c7 w7 hown7 hc7 hb7 _ _;have HO7:=Lib.hid hown7;clear hown7)
       go_roundw
       case rel=>exact ⟨i+1,A7,c7,out++[⟨qlo,qhi⟩],qlo,by omega,by go_num,by rw [List.length_append];rfl,by rw [List.length_append,flatK_append];exact HO7.out,by rw [List.length_append];simp;omega,HMS.out,HBS.out,hb6.trans hb7⟩
       case measure=>simp [intOf];omega
    ·have hmg:=HMG.out
     rw [List.take_of_length_le (show ds.length≤i by omega)] at hmg
     obtain rfl:=HCO.out ds out b HST.out hmg
     have hb6:=hb2.trans (hbr2.mono hb2.size)
     have hb7:=B0.trans (hb6.mono B0.size)
     have X9:=X0.below hb6 X0.lt
     have z9:=X9.cell (i:=0) rfl
     have f9:=X9.free 0
     have hxr:=X9.lt
     have hxw:w.heap.size < W2.heap.size:=by have:=hb2.size;omega
     have hbf:=hb7.setCell (p:=⟨w.heap.size,0,none⟩) (Nat.le_refl _) (.slice S' out.length k')
     have HRW:=Lib.hid (Sl.of_own (own_off HOWN.out (p:=⟨w.heap.size,0,none⟩) hxw (.slice S' out.length k')))
     have hc:=own_le HOWN.out
     clear HMG hmg HOWN HCO X9
     go_wp2_with fail
     (try simp only [Exit.inBlock,Exit.then]);refine bodyPost_ret (results_pmake _ _ (b:=w.heap.size) (v0:=.slice S' out.length k') rfl (by go_simp)) rfl ?_
     exact ⟨S',k',rfl,hc,HRW.out,hbf⟩
end Go.Proofs.YtkhmjidaeliccaaGreatDoor
