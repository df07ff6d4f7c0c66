/- Texts that are merged into one file: SmallC, TpSet, TkPlain, TkRuns, TkRep, TkRange, TkRound. -/
import Derived.Test.YtijgbonhjcblcaaGreatDoorK02
import Derived.Test.YtijgbonhjcblcaaGreatDoorK03
import Derived.Test.YtijgbonhjcblcaaGreatDoorK05
import Derived.Test.YtijgbonhjcblcaaGreatDoorK06
import Derived.Test.YtijgbonhjcblcaaGreatDoorK07
import Derived.Test.YtijgbonhjcblcaaGreatDoorK08
import Derived.Test.YtijgbonhjcblcaaGreatDoorK09
import Derived.Test.YtijgbonhjcblcaaGreatDoorK12
import Derived.Test.YtijgbonhjcblcaaGreatDoorK13
import Derived.Test.YtijgbonhjcblcaaGreatDoorK14
import Derived.Test.YtijgbonhjcblcaaGreatDoorK17
import Derived.Test.YtijgbonhjcblcaaGreatDoorK19
import Derived.Sort.QuietIn
import Derived.Laws.Bits64b
import Derived.RangeFuncBox
import Derived.RangeFuncNested
import Derived.OrdersHeld
import Derived.OrdersIn
import Derived.OwnWalkIn
import Derived.RangeFuncCalls
import Derived.Deep.RegionHeld
set_option maxRecDepth 100000
set_option maxHeartbeats 51200000
namespace Go.Proofs.YtijgbonhjcblcaaGreatDoor
open Go.RowKit Go.Maps Go.WideMaps
def smallC (c:Col):Bool:=decide (c.ents.length≤12)&&decide (c.grps.length≤8)&&c.ents.all (fun x=>decide (x.codes.length≤10)&&decide (x.elems.length≤20))
theorem small_sz {c:Col} (h:smallC c=true):ColSz c∧c.grps.length≤8∧c.ents.length≤12∧∀x ∈ c.ents,x.codes.length≤10∧x.elems.length≤20:=by
 unfold smallC at h
 simp only [Bool.and_eq_true,decide_eq_true_eq,List.all_eq_true] at h
 obtain ⟨⟨h1,h2⟩,h3⟩:=h
 refine ⟨⟨fun i hi=>?_,by omega,by omega⟩,h2,h1,h3⟩
 have:=h3 _ (List.getElem_mem hi)
 omega
section
variable {c:Col}
theorem small1 (h:¬c.ents.length≤12):smallC c=false:=by simp [smallC];omega
theorem small2 (h:¬c.grps.length≤8):smallC c=false:=by simp [smallC];omega
theorem small3 {k:Nat} (hk:k < c.ents.length) (h:¬(c.ents[k].codes.length≤10∧c.ents[k].elems.length≤20)):smallC c=false:=by
 cases hs:smallC c with
 | false=>rfl
 | true=>exact absurd ((small_sz hs).2.2.2 _ (List.getElem_mem hk)) h
theorem small4 (h1:c.ents.length≤12) (h2:c.grps.length≤8) (h:∀t,(ht:t < c.ents.length)→c.ents[t].codes.length≤10∧c.ents[t].elems.length≤20):smallC c=true:=by
 unfold smallC
 simp only [Bool.and_eq_true,decide_eq_true_eq,List.all_eq_true]
 refine ⟨⟨h1,h2⟩,fun x hx=>?_⟩
 obtain ⟨t,ht,rfl⟩:=List.getElem_of_mem hx
 exact h t ht
end
theorem small43_any (A:Option Addr) (n a:Nat) (B:Option Addr) (m b:Nat) (c:Col) (w:World) (h:ColAt w A n B m c) :
  Calls Tryz.prog 23 #[colV A n a B m b c] w fun e w'=>e=.returned (.bool (smallC c))∧Below w.heap.size w w':=by
 have B0:Below w.heap.size w (w.alloc (.cells #[.slice A n a,.slice B m b,.int .i64 c.base,.int .i64 c.second,.int .i64 c.third] 32)):=(Below.refl _ _).alloc (Nat.le_refl _) _
 have k0:(w.alloc (.cells #[.slice A n a,.slice B m b,.int .i64 c.base,.int .i64 c.second,.int .i64 c.third] 32)).cell? ⟨w.heap.size,0,none⟩=some (.slice A n a):=by simp
 have k1:(w.alloc (.cells #[.slice A n a,.slice B m b,.int .i64 c.base,.int .i64 c.second,.int .i64 c.third] 32)).cell? ⟨w.heap.size,1,none⟩=some (.slice B m b):=by simp
 have W0E:∃W0,w.alloc (.cells #[.slice A n a,.slice B m b,.int .i64 c.base,.int .i64 c.second,.int .i64 c.third] 32)=W0:=⟨_,rfl⟩
 have S1:=Lib.hid (small1 (c:=c));have S2:=Lib.hid (small2 (c:=c));have S3:=Lib.hid (fun k=>small3 (c:=c) (k:=k));have S4:=Lib.hid (small4 (c:=c))
 have HE:=Lib.hid h.ents
 have hn:=h.hn
 have hm:=h.hm
 unfold colV
 generalize smallC c=r at *
 generalize c.base=cb at *
 generalize c.second=cs at *
 generalize c.third=ct at *
 generalize c.ents=es at *
 generalize c.grps=gs at *
 subst hn
 subst hm
 clear h
 go_enter Tryz.func23,Tryz.ntmps23
 by_cases h1:es.length≤12
 ·have q1:decide ((12:Int) < (es.length:Int))=false:=by simp;omega
  by_cases h2:gs.length≤8
  ·have q2:decide ((8:Int) < (gs.length:Int))=false:=by simp;omega
   clear S1 S2
   go_wp2_with fail
   obtain ⟨W0,hW0⟩:=W0E
   rw [hW0] at B0 k0 k1 ⊢
   clear hW0 k1
   have HE0:=Lib.hid (HE.out.below B0)
   go_loopw [3] (fun u wr=>∃i:Nat,i≤es.length∧u=.int .i64 i∧(∀t,(ht:t < es.length)→t < i→es[t].codes.length≤10∧es[t].elems.length≤20)∧wr=W0) (fun u _=>es.length - (intOf u).toNat)
   case atStart=>exact ⟨0,Nat.zero_le _,rfl,fun t _ h=>by omega,rfl⟩
   case round=>
    obtain ⟨i,hi,rfl,hne,rfl⟩:=hrel
    have HNE:=Lib.hid hne;clear hne
    by_cases hlt:i < es.length
    ·obtain ⟨b1,o1,rfl,hbl,hcell⟩:=HE0.out.at hlt
     obtain ⟨C,c',E,d,c1,c2,_,_⟩:=hcell i hlt
     have HN:=Lib.hid (fun h=>all_up (P:=fun x=>x.codes.length≤10∧x.elems.length≤20) hlt HNE.out h)
     have HY:=Lib.hid (fun h=>S3.out i hlt h)
     clear hcell S3 S4
     generalize es[i]=ei at *
     obtain ⟨ec,ee⟩:=ei
     dsimp only at *
     by_cases h3:ec.length≤10
     ·have q3:decide ((10:Int) < (ec.length:Int))=false:=by simp;omega
      by_cases h4:ee.length≤20
      ·have q4:decide ((20:Int) < (ee.length:Int))=false:=by simp;omega
       have HQ:=Lib.hid (HN.out ⟨h3,h4⟩)
       clear HN HY
       go_wp2_with fail
       go_roundw
       case rel=>exact ⟨i+1,by omega,by go_num,HQ.out,trivial⟩
       case measure=>simp [intOf];omega
      ·have q4:decide ((20:Int) < (ee.length:Int))=true:=by simp;omega
       obtain rfl:=HY.out (fun h=>h4 h.2)
       clear HN HY
       go_wp2_with fail
       go_ret
       exact ⟨rfl,B0⟩
     ·have q3:decide ((10:Int) < (ec.length:Int))=true:=by simp;omega
      obtain rfl:=HY.out (fun h=>h3 h.1)
      clear HN HY
      go_wp2_with fail
      go_ret
      exact ⟨rfl,B0⟩
    ·obtain rfl:=S4.out h1 h2 (fun t ht=>HNE.out t ht (by omega))
     go_wp2_with fail
     go_ret
     exact ⟨rfl,B0⟩
  ·have q2:decide ((8:Int) < (gs.length:Int))=true:=by simp;omega
   obtain rfl:=S2.out h2
   clear S1 S2 S3 S4
   go_wp2_with fail
   go_ret
   exact ⟨rfl,B0⟩
 ·have q1:decide ((12:Int) < (es.length:Int))=true:=by simp;omega
  obtain rfl:=S1.out h1
  clear S1 S2 S3 S4
  go_wp2_with fail
  go_ret
  exact ⟨rfl,B0⟩
end Go.Proofs.YtijgbonhjcblcaaGreatDoor
namespace Go.Proofs.YtijgbonhjcblcaaGreatDoor
open Go.RowKit Go.Maps Go.WideMaps
def smallS (x:Nrm):Bool:=decide (x.cls.length≤16)&&smallM x.dec&&decide (x.exc.length≤12)
theorem smallS_sz {x:Nrm} (h:smallS x=true):NrmSz x:=by
 unfold smallS at h
 simp only [Bool.and_eq_true,decide_eq_true_eq] at h
 obtain ⟨⟨h1,h2⟩,h3⟩:=h
 exact ⟨by omega,(smallM_sz h2).1,h3⟩
theorem few01_any (A:Option Addr) (n k:Nat) (m:Int) (w:World):Calls Tryz.prog 6 #[.slice A n k,.int .i64 m] w fun e w'=>e=.returned (.bool (decide ((n:Int)≤m)))∧w=w':=by
 go_enter Tryz.func6,Tryz.ntmps6
 go_wp2_with fail
 go_ret
 exact ⟨rfl,rfl⟩
theorem small21_any (A0:Option Addr) (k0:Nat) (A1:Option Addr) (k1:Nat) (A2:Option Addr) (k2:Nat) (x:Nrm) (w:World) (hN:NrmAt w A0 x.cls.length A1 x.dec.length A2 x.exc.length x) (hl:NrmLn x) :
  Calls Tryz.prog 22 #[.agg #[.slice A0 x.cls.length k0,.slice A1 x.dec.length k1,.slice A2 x.exc.length k2]] w (RetBool (smallS x) w):=by
 have B0:Below w.heap.size w (w.alloc (.cells #[.slice A0 x.cls.length k0,.slice A1 x.dec.length k1,.slice A2 x.exc.length k2] 28)):=(Below.refl _ _).alloc (Nat.le_refl _) _
 have X0:Box (w.alloc (.cells #[.slice A0 x.cls.length k0,.slice A1 x.dec.length k1,.slice A2 x.exc.length k2] 28)) w.heap.size 28 [.slice A0 x.cls.length k0,.slice A1 x.dec.length k1,.slice A2 x.exc.length k2]:=Box.new _ _ _ rfl
 have W0E:∃W0,(w.alloc (.cells #[.slice A0 x.cls.length k0,.slice A1 x.dec.length k1,.slice A2 x.exc.length k2] 28))=W0:=⟨_,rfl⟩
 have K1:=Lib.hid (fun W=>Small_any A0 x.cls.length k0 W)
 have K2:=Lib.hid (fun W (hb:Below w.heap.size w W)=>smallM_any A1 x.dec.length k1 x.dec W (hN.s1.below hb) rfl hl.z1 hl.ze)
 have K3:=Lib.hid (fun W=>refSmallS_any A2 x.exc.length k2 W hl.z2)
 have EQ:=Lib.hid (show smallS x=(decide (x.cls.length≤16)&&smallM x.dec&&decide (x.exc.length≤12)) from rfl)
 generalize smallS x=r at *
 generalize smallM x.dec=sm at *
 generalize decide (x.cls.length≤16)=sc at *
 generalize decide (x.exc.length≤12)=se at *
 clear hN hl
 go_enter Tryz.func22,Tryz.ntmps22
 go_wp2_with fail
 obtain ⟨W0,hW0⟩:=W0E
 try rw [hW0] at B0 X0 ⊢
 clear hW0
 have d0:=X0.cell (i:=0) rfl
 have d1:=X0.cell (i:=1) rfl
 have d2:=X0.cell (i:=2) rfl
 with_reducible refine (K1.out _).mono ?_
 rintro e W1 ⟨rfl,rfl⟩
 cases sc with
 | false=>
  go_wp2_with fail
  go_ret
  exact ⟨ret_bool (by rw [EQ.out];rfl),B0⟩
 | true=>
  go_wp2_with fail
  with_reducible refine (K2.out _ B0).mono ?_
  rintro e W1 ⟨rfl,rfl⟩
  cases sm with
  | false=>
   go_wp2_with fail
   go_ret
   exact ⟨ret_bool (by rw [EQ.out];rfl),B0⟩
  | true=>
   go_wp2_with fail
   with_reducible refine (K3.out _).mono ?_
   rintro e W3 ⟨rfl,hb3⟩
   go_wp2_with fail
   go_ret
   exact ⟨ret_bool (by rw [EQ.out];cases se <;> rfl),B0.trans (hb3.mono B0.size)⟩
theorem small_any (V:SetV) (x:Nrm) (c:Col) (o:Opt) (w:World) (hS:SetAt w V x c) :
  Calls Tryz.prog 5 #[.agg #[.slice V.A0 x.cls.length V.k0,.slice V.A1 x.dec.length V.k1,.slice V.A2 x.exc.length V.k2,.slice V.C c.ents.length V.a,.slice V.B c.grps.length V.b,.int .i64 c.base,.int .i64 c.second,.int .i64 c.third,.int .i64 o.st,.int .i64 o.va,.bool o.bk,.bool o.idn]] w (RetBool (smallS x&&smallC c) w):=by
 have B0:Below w.heap.size w (w.alloc (.cells #[.slice V.A0 x.cls.length V.k0,.slice V.A1 x.dec.length V.k1,.slice V.A2 x.exc.length V.k2,.slice V.C c.ents.length V.a,.slice V.B c.grps.length V.b,.int .i64 c.base,.int .i64 c.second,.int .i64 c.third,.int .i64 o.st,.int .i64 o.va,.bool o.bk,.bool o.idn] 36)):=(Below.refl _ _).alloc (Nat.le_refl _) _
 have X0:Box (w.alloc (.cells #[.slice V.A0 x.cls.length V.k0,.slice V.A1 x.dec.length V.k1,.slice V.A2 x.exc.length V.k2,.slice V.C c.ents.length V.a,.slice V.B c.grps.length V.b,.int .i64 c.base,.int .i64 c.second,.int .i64 c.third,.int .i64 o.st,.int .i64 o.va,.bool o.bk,.bool o.idn] 36)) w.heap.size 36 [.slice V.A0 x.cls.length V.k0,.slice V.A1 x.dec.length V.k1,.slice V.A2 x.exc.length V.k2,.slice V.C c.ents.length V.a,.slice V.B c.grps.length V.b,.int .i64 c.base,.int .i64 c.second,.int .i64 c.third,.int .i64 o.st,.int .i64 o.va,.bool o.bk,.bool o.idn]:=Box.new _ _ _ rfl
 have W0E:∃W0,(w.alloc (.cells #[.slice V.A0 x.cls.length V.k0,.slice V.A1 x.dec.length V.k1,.slice V.A2 x.exc.length V.k2,.slice V.C c.ents.length V.a,.slice V.B c.grps.length V.b,.int .i64 c.base,.int .i64 c.second,.int .i64 c.third,.int .i64 o.st,.int .i64 o.va,.bool o.bk,.bool o.idn] 36))=W0:=⟨_,rfl⟩
 have K1:=Lib.hid (fun W (hb:Below w.heap.size w W)=>small21_any V.A0 V.k0 V.A1 V.k1 V.A2 V.k2 x W (hS.nrm.below hb) hS.ln)
 have K2:=Lib.hid (fun W (hb:Below w.heap.size w W)=>small43_any V.C c.ents.length V.a V.B c.grps.length V.b c W (hS.col.below hb))
 unfold colV at K2
 unfold RetBool at K1 ⊢
 generalize smallS x=sx at *
 generalize smallC c=sc at *
 clear hS
 go_enter Tryz.func5,Tryz.ntmps5
 go_upto_region 1 with (fail)
 obtain ⟨W0,hW0⟩:=W0E
 try rw [hW0] at B0 X0 ⊢
 clear hW0
 have d0:=X0.cell (i:=0) rfl
 have d1:=X0.cell (i:=1) rfl
 have d2:=X0.cell (i:=2) rfl
 have d3:=X0.cell (i:=3) rfl
 have d4:=X0.cell (i:=4) rfl
 have d5:=X0.cell (i:=5) rfl
 have d6:=X0.cell (i:=6) rfl
 have d7:=X0.cell (i:=7) rfl
 have d8:=X0.cell (i:=8) rfl
 have d9:=X0.cell (i:=9) rfl
 have d10:=X0.cell (i:=10) rfl
 have d11:=X0.cell (i:=11) rfl
 go_wp2_with fail
 with_reducible refine (K1.out W0 B0).mono ?_
 rintro e W1 ⟨rfl,hb1⟩
 have B1:=B0.trans (hb1.mono B0.size)
 clear K1 d0 d1 d2 d3 d4 d5 d6 d7 d8 d9 d10 d11
 have X1:=X0.below hb1 X0.lt
 have e0:=X1.cell (i:=0) rfl
 have e1:=X1.cell (i:=1) rfl
 have e2:=X1.cell (i:=2) rfl
 have e3:=X1.cell (i:=3) rfl
 have e4:=X1.cell (i:=4) rfl
 have e5:=X1.cell (i:=5) rfl
 have e6:=X1.cell (i:=6) rfl
 have e7:=X1.cell (i:=7) rfl
 have e8:=X1.cell (i:=8) rfl
 have e9:=X1.cell (i:=9) rfl
 have e10:=X1.cell (i:=10) rfl
 have e11:=X1.cell (i:=11) rfl
 cases sx with
 | false=>
  go_wp2_with fail
  go_ret
  exact ⟨rfl,B1⟩
 | true=>
  go_wp2_with fail
  with_reducible refine (K2.out W1 B1).mono ?_
  rintro e W2 ⟨rfl,hb2⟩
  have B2:=B1.trans (hb2.mono B1.size)
  go_wp2_with fail
  go_ret
  exact ⟨ret_bool (by simp),B2⟩
end Go.Proofs.YtijgbonhjcblcaaGreatDoor
namespace Go.Proofs.YtijgbonhjcblcaaGreatDoor.Pk
open Go.RowKit
theorem pk_raw {m:Int}:∀{xs:List Int},(∀x ∈ xs,x < m)→pk m 0 xs=xs
 | [],_=>rfl
 | x::r,h=>by
  have h1:=h x (by simp)
  unfold pk
  rw [if_neg (by omega),if_pos h1,pk_raw (fun z hz=>h z (by simp [hz]))]
  rfl
theorem joinP {M:Nat→Int} {F G:Nat→List Int} (hM:∀k,1≤M k) (hF:∀k,∀x ∈ F k,1≤x) (hG:∀k,∀x ∈ G k,1≤x):∀ks:List Nat,
  cmpL (joinL (ks.map fun k=>pk (M k) 0 (F k))) (joinL (ks.map fun k=>pk (M k) 0 (G k)))=cmpL (joinL (ks.map F)) (joinL (ks.map G))
 | []=>rfl
 | [k]=>by
  have:=pk_cmp (hM k) (F k) (G k) 0 (by omega) (hF k) (hG k) (s:=[]) (t:=[]) (s':=[]) (t':=[]) (.inl ⟨rfl,rfl⟩) (.inl ⟨rfl,rfl⟩) rfl
  simpa [joinL] using this
 | k::j::ks=>by
  have ih:=joinP hM hF hG (j::ks)
  have e:∀H:Nat→List Int,joinL ((k::j::ks).map H)=H k++0::joinL ((j::ks).map H):=fun H=>rfl
  rw [e,e,e,e]
  refine pk_cmp (hM k) (F k) (G k) 0 (by omega) (hF k) (hG k) (.inr ⟨_,_,rfl,rfl⟩) (.inr ⟨_,_,rfl,rfl⟩) ?_
  exact (cmp_strip [0] _ _).trans (ih.trans (cmp_strip [0] _ _).symm)
structure Bd (e:Elt):Prop where
 p0:0≤e.p
 p1:e.p≤65535
 s0:0≤e.s
 s1:e.s≤65535
 t0:0≤e.t
 t1:e.t≤65535
theorem bd_elt {e:Elt} (h:eltErr e=0):Bd e:=by
 unfold eltErr at h
 split at h
 ·cases h
 ·next h1=>exact ⟨by omega,by omega,by omega,by omega,by omega,by omega⟩
theorem first_zero:∀{l:List Int},firstErr l=0→∀x ∈ l,x=0
 | y::r,h,x,hx=>by
  unfold firstErr at h
  split at h
  ·next h1=>
   rcases List.mem_cons.1 hx with rfl | hx
   ·exact h1
   ·exact first_zero h x hx
  ·next h1=>exact absurd h h1
theorem bd_ent {base:Int} {x:Ent} (h:entErr1 base x=0):∀e ∈ x.elems,Bd e:=by
 intro e he
 unfold entErr1 at h
 split at h
 ·cases h
 ·split at h
  ·cases h
  ·split at h
   ·next h1=>exact absurd h h1
   ·next h1=>
    exact bd_elt (first_zero (Classical.not_not.1 h1) _ (List.mem_map.2 ⟨e,he,rfl⟩))
theorem ents_each {base:Int}:∀{es:List Ent} {p:Option Ent},entsErr base es p=0→∀x ∈ es,entErr1 base x=0
 | x::r,p,h,y,hy=>by
  obtain ⟨h1,_,h3⟩:=ents_step0 h
  rcases List.mem_cons.1 hy with rfl | hy
  ·exact h1
  ·exact ents_each h3 y hy
theorem bd_part {c:Col} (h:colErr c=0) (p:List Int) (q:Bool):∀e ∈ Mtc.ofPart (lastE c.ents) (impE c) p q,Bd e:=by
 intro e he
 obtain ⟨_,b1,b2,⟨s1,s2⟩,t1,t2⟩:=col_grps h
 unfold Mtc.ofPart at he
 split at he
 ·cases hl:lastE c.ents p with
  | none=>rw [hl] at he;cases he
  | some es=>
   rw [hl] at he
   obtain ⟨x,hx,_,rfl⟩:=lastE_mem hl
   exact bd_ent (ents_each (col_ents h) x hx) e he
 ·unfold impE at he
  split at he
  ·simp only [List.mem_cons,List.not_mem_nil,or_false] at he
   rcases he with rfl | rfl
   ·exact ⟨by dsimp only;omega,by dsimp only;omega,by dsimp only;omega,s2,by dsimp only;omega,t2⟩
   ·exact ⟨by dsimp only;omega,by dsimp only;omega,by dsimp only;omega,by dsimp only;omega,by dsimp only;omega,by dsimp only;omega⟩
  ·cases he
theorem bd_elems {cl:Int→Int} {c:Col} (h:colErr c=0) (t:List Int):∀e ∈ Mtc.elems cl (lastE c.ents) (impE c) t,Bd e:=by
 intro e he
 rw [Mtc.elems_parts] at he
 obtain ⟨p,_,hp⟩:=List.mem_flatMap.1 he
 exact bd_part h _ _ e hp
theorem bd_elsN (x:Nrm) (c:Col) (t:List Int):∀e ∈ elsN x c t,Bd e:=bd_elems (colD_ok c) _
theorem raw_bd {e:Elt} (h:Bd e) (k:Nat):0≤rawE e k∧rawE e k≤65535:=by
 have:=h.p0;have:=h.p1;have:=h.s0;have:=h.s1;have:=h.t0;have:=h.t1
 unfold rawE
 split
 ·omega
 ·split
  ·omega
  ·split <;> omega
theorem wt_bd {e:Elt} (h:Bd e) (va:Int) (a:Bool) (k:Nat):0≤wtE va a e k∧wtE va a e k≤65535:=by
 have h1:=raw_bd h k
 have:=h.p0;have:=h.p1
 unfold wtE
 repeat' split
 all_goals omega
theorem wts_bd (va:Int) (k:Nat):∀(a:Bool) (l:List Elt),(∀e ∈ l,Bd e)→∀u ∈ wtsL va a l,0≤u k∧u k≤65535
 | a,e::l,h,u,hu=>by
  unfold wtsL at hu
  rcases List.mem_cons.1 hu with rfl | hu
  ·exact wt_bd (h e (by simp)) va _ k
  ·exact wts_bd va k _ l (fun z hz=>h z (by simp [hz])) u hu
theorem row_bd {ws:List (Nat→Int)} {k:Nat} (h:∀u ∈ ws,0≤u k∧u k≤65535):∀x ∈ rowK ws k,1≤x∧x≤65535:=by
 intro x hx
 unfold rowK at hx
 obtain ⟨h1,h2⟩:=List.mem_filter.1 hx
 obtain ⟨u,hu,rfl⟩:=List.mem_map.1 h1
 have:=h u hu
 have:u k≠0:=by simpa using h2
 omega
theorem lvl_bd (o:Opt) {es:List Elt} (h:∀e ∈ es,Bd e) (k:Nat):∀x ∈ lvlK o es k,1≤x∧x≤65535:=by
 have hr:=row_bd (ws:=wtsL o.va false es) (k:=k) (wts_bd o.va k false es h)
 intro x hx
 unfold lvlK at hx
 split at hx
 ·exact hr x (List.mem_reverse.1 hx)
 ·exact hr x hx
theorem join_mem {x:Int}:∀{l:List (List Int)},x ∈ joinL l→x=0∨∃r ∈ l,x ∈ r
 | [r],h=>.inr ⟨r,by simp,h⟩
 | r::y::l,h=>by
  rcases List.mem_append.1 (show x ∈ r++0::joinL (y::l) from h) with h | h
  ·exact .inr ⟨r,by simp,h⟩
  ·rcases List.mem_cons.1 h with h | h
   ·exact .inl h
   ·rcases join_mem h with h | ⟨r',h1,h2⟩
    ·exact .inl h
    ·exact .inr ⟨r',List.mem_cons_of_mem _ h1,h2⟩
theorem wgt_bd (o:Opt) {es:List Elt} (h:∀e ∈ es,Bd e):∀x ∈ joinL (wgtL o es),0≤x∧x≤65535:=by
 intro x hx
 rcases join_mem hx with rfl | ⟨r,hr,hx⟩
 ·decide
 ·unfold wgtL at hr
  obtain ⟨k,_,rfl⟩:=List.mem_map.1 hr
  have:=lvl_bd o h k x hx
  omega
theorem idn_bd (d:List Int):∀x ∈ idnL d,0≤x∧x≤1114112:=by
 intro x hx
 unfold idnL at hx
 obtain ⟨y,hy,rfl⟩:=List.mem_map.1 hx
 have:=(List.mem_filter.1 hy).2
 simp at this
 omega
theorem key_bd (o:Opt) {es:List Elt} (h:∀e ∈ es,Bd e) (d:List Int):∀x ∈ keyN o es d,0≤x∧x < 4294967296:=by
 intro x hx
 unfold keyN at hx
 rcases List.mem_append.1 hx with hx | hx
 ·have:=wgt_bd o h x hx;omega
 ·split at hx
  ·rcases List.mem_cons.1 hx with rfl | hx
   ·decide
   ·have:=idn_bd d x hx;omega
  ·cases hx
def lvlP (o:Opt) (m2 m3:Int) (es:List Elt) (k:Nat):List Int:=if k=1 then pk m2 0 (lvlK o es k) else if k=2 then pk m3 0 (lvlK o es k) else lvlK o es k
def keyP (o:Opt) (m2 m3:Int) (es:List Elt):List Int:=joinL ((List.range o.st.toNat).map (lvlP o m2 m3 es))
theorem keyP_cmp (o:Opt) {m2 m3:Int} (h2:1≤m2) (h3:1≤m3) {es fs:List Elt} (he:∀e ∈ es,Bd e) (hf:∀e ∈ fs,Bd e):cmpL (keyP o m2 m3 es) (keyP o m2 m3 fs)=cmpL (joinL (wgtL o es)) (joinL (wgtL o fs)):=by
 have key:∀{es:List Elt},(∀e ∈ es,Bd e)→lvlP o m2 m3 es=fun k=>pk (if k=1 then m2 else if k=2 then m3 else 65536) 0 (lvlK o es k):=by
  intro es he
  funext k
  unfold lvlP
  by_cases k1:k=1
  ·rw [if_pos k1,if_pos k1]
  ·rw [if_neg k1,if_neg k1]
   by_cases k2:k=2
   ·rw [if_pos k2,if_pos k2]
   ·rw [if_neg k2,if_neg k2,pk_raw (fun x hx=>by have:=lvl_bd o he k x hx;omega)]
 unfold keyP wgtL
 rw [key he,key hf]
 refine joinP (M:=fun k=>if k=1 then m2 else if k=2 then m3 else 65536) (fun k=>?_) (fun k x hx=>(lvl_bd o he k x hx).1) (fun k x hx=>(lvl_bd o hf k x hx).1) _
 show 1≤(if k=1 then m2 else if k=2 then m3 else 65536)
 split
 ·exact h2
 ·split
  ·exact h3
  ·decide
theorem pk_bd {m:Int} (hm:1≤m) (hm2:m≤65535):∀(l:List Int) (q:Nat),q≤7→(∀x ∈ l,0≤x∧x≤65535)→∀y ∈ pk m q l,0≤y∧y≤65549
 | [],q,hq,_,y,hy=>by
  unfold pk low at hy
  split at hy
  ·cases hy
  ·simp at hy;omega
 | x::r,q,hq,h,y,hy=>by
  have hx:=h x (by simp)
  have hr:∀z ∈ r,0≤z∧z≤65535:=fun z hz=>h z (by simp [hz])
  unfold pk at hy
  split at hy
  ·split at hy
   ·rcases List.mem_cons.1 hy with rfl | hy
    ·omega
    ·exact pk_bd hm hm2 r 0 (by omega) hr y hy
   ·exact pk_bd hm hm2 r (q+1) (by omega) hr y hy
  ·split at hy
   ·rcases List.mem_append.1 hy with hy | hy
    ·unfold low at hy
     split at hy
     ·cases hy
     ·simp at hy;omega
    ·rcases List.mem_cons.1 hy with rfl | hy
     ·omega
     ·exact pk_bd hm hm2 r 0 (by omega) hr y hy
   ·rcases List.mem_append.1 hy with hy | hy
    ·unfold high at hy
     split at hy
     ·cases hy
     ·simp at hy;omega
    ·rcases List.mem_cons.1 hy with rfl | hy
     ·omega
     ·exact pk_bd hm hm2 r 0 (by omega) hr y hy
theorem keyP_bd (o:Opt) {m2 m3:Int} (h2:1≤m2∧m2≤65535) (h3:1≤m3∧m3≤65535) {es:List Elt} (he:∀e ∈ es,Bd e):∀x ∈ keyP o m2 m3 es,0≤x∧x < 16777216:=by
 intro x hx
 unfold keyP at hx
 rcases join_mem hx with rfl | ⟨r,hr,hx⟩
 ·decide
 ·obtain ⟨k,_,rfl⟩:=List.mem_map.1 hr
  have hb:∀y ∈ lvlK o es k,0≤y∧y≤65535:=fun y hy=>by have:=lvl_bd o he k y hy;omega
  unfold lvlP at hx
  split at hx
  ·have:=pk_bd h2.1 h2.2 _ 0 (by omega) hb x hx;omega
  ·split at hx
   ·have:=pk_bd h3.1 h3.2 _ 0 (by omega) hb x hx;omega
   ·have:=hb x hx;omega
theorem bytes_cmp (o:Opt) {es fs:List Elt} (he:∀e ∈ es,Bd e) (hf:∀e ∈ fs,Bd e) (d d':List Int):cmpL ((keyN o es d).flatMap b4) ((keyN o fs d').flatMap b4)=cmpL (keyN o es d) (keyN o fs d'):=
 ord_cmp b4_ord _ _ (key_bd o he d) (key_bd o hf d')
theorem packed_cmp (o:Opt) (hi:o.idn=false) {m2 m3:Int} (h2:1≤m2∧m2≤65535) (h3:1≤m3∧m3≤65535) {es fs:List Elt} (he:∀e ∈ es,Bd e) (hf:∀e ∈ fs,Bd e) (d d':List Int):cmpL ((keyP o m2 m3 es).flatMap vb) ((keyP o m2 m3 fs).flatMap vb)=cmpL (keyN o es d) (keyN o fs d'):=by
 rw [ord_cmp vb_ord _ _ (keyP_bd o h2 h3 he) (keyP_bd o h2 h3 hf),keyP_cmp o h2.1 h3.1 he hf]
 unfold keyN
 rw [if_neg (by rw [hi];decide),if_neg (by rw [hi];decide),List.append_nil,List.append_nil]
theorem pk_run {m:Int}:∀(n q:Nat) (r:List Int),q≤7→pk m q (List.replicate n m++r)=List.replicate ((q+n) / 8) (m+7)++pk m ((q+n) % 8) r
 | 0,q,r,hq=>by
  rw [Nat.add_zero,Nat.div_eq_of_lt (by omega),Nat.mod_eq_of_lt (by omega)]
  rfl
 | n+1,q,r,hq=>by
  rw [List.replicate_succ,List.cons_append]
  conv=>lhs;unfold pk
  rw [if_pos rfl]
  by_cases h:q=7
  ·subst h
   rw [if_pos rfl,pk_run n 0 r (by omega)]
   rw [show (7+(n+1)) / 8=(0+n) / 8+1 by omega,show (7+(n+1)) % 8=(0+n) % 8 by omega,List.replicate_succ]
   rfl
  ·rw [if_neg h,pk_run n (q+1) r (by omega),show q+1+n=q+(n+1) by omega]
theorem pk_low {m:Int} (q:Nat) {r:List Int} (hr:∀y,r.head?=some y→y < m):pk m q r=low m q++pk m 0 r:=by
 cases r with
 | nil=>unfold pk low;simp
 | cons y r=>
  have:=hr y rfl
  unfold pk
  rw [if_neg (by omega),if_pos this,if_neg (by omega),if_pos this]
  simp [low]
theorem pk_high {m:Int} (q:Nat) {y:Int} {r:List Int} (hr:m < y):pk m q (y::r)=high m q++pk m 0 (y::r):=by
 unfold pk
 rw [if_neg (by omega),if_neg (by omega),if_neg (by omega),if_neg (by omega)]
 simp [high]
theorem pk_less {m v:Int} (hv:v < m):∀(n:Nat) (r:List Int),pk m 0 (List.replicate n v++r)=List.replicate n v++pk m 0 r
 | 0,r=>rfl
 | n+1,r=>by
  rw [List.replicate_succ,List.cons_append]
  conv=>lhs;unfold pk
  rw [if_neg (by omega),if_pos hv,pk_less hv n r]
  rfl
theorem pk_more {m v:Int} (hv:m < v):∀(n:Nat) (r:List Int),pk m 0 (List.replicate n v++r)=List.replicate n (v+14)++pk m 0 r
 | 0,r=>rfl
 | n+1,r=>by
  rw [List.replicate_succ,List.cons_append]
  conv=>lhs;unfold pk
  rw [if_neg (by omega),if_neg (by omega),pk_more hv n r]
  rfl
end Go.Proofs.YtijgbonhjcblcaaGreatDoor.Pk
namespace Go.Proofs.YtijgbonhjcblcaaGreatDoor
open Go.RowKit Go.Shelf
attribute [local go_sem] Oper.semAt_some
def runsL:List Int→List (Int × Nat)
 | []=>[]
 | x::r=>match runsL r with
  | []=>[(x,1)]
  | (y,c)::t=>if x=y then (y,c+1)::t else (x,1)::(y,c)::t
theorem runsL_head (x:Int) (r:List Int):∃c t,runsL (x::r)=(x,c+1)::t:=by
 unfold runsL
 cases runsL r with
 | nil=>exact ⟨0,[],rfl⟩
 | cons p t=>
  obtain ⟨y,c⟩:=p
  dsimp only
  split
  ·next h=>subst h;exact ⟨c,t,rfl⟩
  ·exact ⟨0,_,rfl⟩
theorem runsL_rep {x:Int}:∀(n:Nat) (r:List Int),r.head?≠some x→runsL (List.replicate (n+1) x++r)=(x,n+1)::runsL r
 | 0,[],_=>rfl
 | 0,y::s,h=>by
  have hne:¬x=y:=fun e=>h (by rw [e];rfl)
  obtain ⟨c,t,e⟩:=runsL_head y s
  show runsL (x::(y::s))=_
  conv=>lhs;unfold runsL
  rw [e]
  dsimp only
  rw [if_neg hne]
 | n+1,r,h=>by
  have ih:=runsL_rep n r h
  rw [List.replicate_succ,List.cons_append]
  conv=>lhs;unfold runsL
  rw [ih]
  dsimp only
  rw [if_pos rfl]
theorem runsL_flat:∀l:List Int,(runsL l).flatMap (fun p=>List.replicate p.2 p.1)=l
 | []=>rfl
 | x::r=>by
  have ih:=runsL_flat r
  unfold runsL
  cases h:runsL r with
  | nil=>
   rw [h] at ih
   dsimp only
   rw [List.flatMap_nil] at ih
   subst ih
   rfl
  | cons p t=>
   obtain ⟨y,c⟩:=p
   rw [h] at ih
   rw [List.flatMap_cons] at ih
   dsimp only at ih ⊢
   split
   ·next e=>
    subst e
    rw [List.flatMap_cons]
    dsimp only
    rw [List.replicate_succ,List.cons_append,ih]
   ·rw [List.flatMap_cons,List.flatMap_cons]
    dsimp only
    rw [ih]
    rfl
theorem runs_drop {text:List Int} {k e:Nat} {x:Int} (hk:k < e) (he:e≤text.length) (hx:∀j,k≤j→(hj:j < text.length)→j < e→text[j]=x) (hend:∀he':e < text.length,¬text[e]=x):runsL (text.drop k)=(x,e - k)::runsL (text.drop e):=by
 have h1:text.drop k=List.replicate (e - k - 1+1) x++text.drop e:=by
  have e1:(text.drop k).take (e - k)=List.replicate (e - k) x:=by
   apply List.ext_getElem
   ·simp;omega
   ·intro i h1 h2
    simp at h1 h2
    rw [List.getElem_take,List.getElem_drop,List.getElem_replicate]
    exact hx _ (by omega) (by omega) (by omega)
  have e2:=List.take_append_drop (e - k) (text.drop k)
  rw [e1,List.drop_drop,show k+(e - k)=e by omega] at e2
  rw [show e - k - 1+1=e - k by omega]
  exact e2.symm
 have h2:=runsL_rep (x:=x) (e - k - 1) (text.drop e) (by
  rcases Nat.lt_or_ge e text.length with h | h
  ·rw [List.head?_drop,List.getElem?_eq_getElem h]
   intro q
   injection q with q
   exact hend h q
  ·rw [List.drop_of_length_le h]
   simp)
 rw [h1,h2,show e - k - 1+1=e - k by omega]
def KeepY (n₀ p q:Nat) (W W':World):Prop:=W.heap.size≤W'.heap.size∧∀k,k < n₀→k≠p→k≠q→W'.heap[k]?=W.heap[k]?
theorem KeepY.refl (n₀ p q:Nat) (W:World):KeepY n₀ p q W W:=⟨Nat.le_refl _,fun _ _ _ _=>rfl⟩
theorem KeepY.trans {n₀ p q:Nat} {A B C:World} (h:KeepY n₀ p q A B) (g:KeepY n₀ p q B C):KeepY n₀ p q A C:=⟨Nat.le_trans h.1 g.1,fun k hk h1 h2=>(g.2 k hk h1 h2).trans (h.2 k hk h1 h2)⟩
theorem KeepY.cell {n₀ p q:Nat} {W W':World} (h:KeepY n₀ p q W W') {a:Addr} (h0:a.block < n₀) (h1:a.block≠p) (h2:a.block≠q):W'.cell? a=W.cell? a:=World.cell?_of_block (w:=W) (h.2 a.block h0 h1 h2)
theorem KeepY.of_below {n₀ p q:Nat} {W W':World} (h:Below n₀ W W'):KeepY n₀ p q W W':=⟨h.size,fun k hk _ _=>h.block k hk⟩
def WithY (n₀ p q:Nat) (A:Option Addr):Prop:=∀b o,A=some ⟨b,o,none⟩→b < n₀∧b≠p∧b≠q
theorem Sl.keepY {n₀ p q:Nat} {W W':World} {A:Option Addr} {cs:List Value} (h:Sl W A cs) (hk:KeepY n₀ p q W W') (hw:cs≠[]→WithY n₀ p q A):Sl W' A cs:=by
 intro hne
 obtain ⟨b,o,rfl,hc⟩:=h hne
 obtain ⟨h1,h2,h3⟩:=hw hne b o rfl
 exact ⟨b,o,rfl,fun j u hu=>(hk.cell (a:=⟨b,o+j,none⟩) h1 h2 h3).trans (hc j u hu)⟩
structure MemR (Bt:Nat) (A:Option Addr) (nt kt:Nat) (text:List Int) (W:World):Prop where
 bt:W.cell? ⟨Bt,0,none⟩=some (.slice A nt kt)
 tx:Ints W A text
theorem MemR.below {Bt:Nat} {A:Option Addr} {nt kt:Nat} {text:List Int} {W W':World} (h:MemR Bt A nt kt text W) (hb:Below W.heap.size W W'):MemR Bt A nt kt text W':=
 ⟨(hb.cell (World.block_lt_of_cell? W _ h.bt)).trans h.bt,h.tx.below hb⟩
theorem MemR.keepY {n₀ p q Bt:Nat} {A:Option Addr} {nt kt:Nat} {text:List Int} {W W':World} (h:MemR Bt A nt kt text W) (hk:KeepY n₀ p q W W') (h1:Bt < n₀∧Bt≠p∧Bt≠q) (h3:text≠[]→WithY n₀ p q A):MemR Bt A nt kt text W':=
 ⟨(hk.cell (a:=⟨Bt,0,none⟩) h1.1 h1.2.1 h1.2.2).trans h.bt,Sl.keepY h.tx hk (fun hne=>h3 (by rintro rfl;exact hne rfl))⟩
def encK (x:Int × Nat):Array Value:=#[.int .i64 x.1,.int .i64 (x.2:Int)]
theorem kruns1_in (n:Nat) (hn1:1≤n) (l n₀ p q Bt:Nat) (A:Option Addr) (nt kt:Nat) (text:List Int) (hnt:text.length=nt) (hb1:nt≤1048576)
  (h1:Bt < n₀∧Bt≠p∧Bt≠q) (h3:text≠[]→WithY n₀ p q A)
  (J:List (Int × Nat)→World→Prop) (hJ:∀pre W W',J pre W→Below W.heap.size W W'→J pre W')
  (hY:∀pre x W,J pre W→(pre++[x]) <+: runsL text→YieldAt Fence.wide (n - 1) Tryz.prog l (encK x) W fun e W'=>e=.returned (.bool true)∧J (pre++[x]) W'∧KeepY n₀ p q W W')
  (W:World) (hM:MemR Bt A nt kt text W) (h0:J [] W) :
  CallsIn Fence.wide n Tryz.prog 126 #[.func (.yield l) #[] #[],.pointer (some ⟨Bt,0,none⟩)] W (fun e W'=>(∃v,e=.returned v)∧J (runsL text) W'):=by
 subst hnt
 have HY:=Lib.hid hY;have HJ:=Lib.hid hJ
 have H3:=Lib.hid h3
 clear hY hJ h3
 have cbt:=hM.bt
 refine callsIn_of_wp Tryz.func126 rfl trivial ?_ rfl
 simp only [Tryz.ntmps126,List.size_toArray,List.length_cons,List.length_nil,Nat.reduceAdd,Nat.reduceSub,Array.replicate_succ,Array.replicate_zero,List.push_toArray,List.append_toArray,List.nil_append,List.cons_append]
 gi_wp2
 gi_loopw [3] (fun u wr=>∃(k:Nat) (pre rest:List (Int × Nat)),k≤text.length∧u=.int .i64 k∧(pre++rest=runsL text∧rest=runsL (text.drop k))∧J pre wr∧MemR Bt A text.length kt text wr)
  (fun u _=>text.length - (intOf u).toNat)
 case atStart=>exact ⟨0,[],runsL text,Nat.zero_le _,rfl,⟨rfl,rfl⟩,h0,hM⟩
 case round=>
  obtain ⟨k,pre,rest,hk,rfl,⟨hpre,hrest⟩,hJ1,hM1⟩:=hrel
  have HP:=Lib.hid hpre;have HT:=Lib.hid hrest;clear hrest hpre
  have cb1:=hM1.bt
  by_cases hlt:k < text.length
  ·obtain ⟨wo,rfl⟩:∃wo:World,wo=wr:=⟨_,rfl⟩
   have HJ1:=Lib.hid hJ1
   have HM1:=Lib.hid hM1
   clear hJ1 hM1 cbt
   gi_wp2
   gi_loopw [4] (fun u wr=>∃(e:Nat),k < e∧e≤text.length∧u=.int .i64 e∧(∀j,k≤j→(hj:j < text.length)→j < e→text[j]=text[k])∧J pre wr∧MemR Bt A text.length kt text wr)
    (fun u _=>text.length - (intOf u).toNat)
   case atStart=>exact ⟨k+1,by omega,by omega,by go_num,fun j h1 h2 h3=>(by obtain rfl:j=k:=(by omega);rfl),HJ1.out,HM1.out⟩
   case round=>
    obtain ⟨e,hke,hel,rfl,hsame,hJ2,hM2⟩:=hrel
    have HSA:=Lib.hid hsame
    have HJ2:=Lib.hid hJ2
    have HM2:=Lib.hid hM2
    clear hsame hJ2
    obtain ⟨b,o,rfl,hcell⟩:=hM2.tx.at hlt
    have cb:=hM2.bt
    have ck:=hcell k hlt
    by_cases he:e < text.length
    ·have ce:=hcell e he
     clear hM2 hcell
     by_cases hx:text[e]=text[k]
     ·have HSB:=Lib.hid (fun j (h1:k≤j) (hj:j < text.length) (h2:j < e+1)=>show text[j]=text[k] from by
       by_cases q:j=e
       ·subst q;exact hx
       ·exact HSA.out j h1 hj (by omega))
      rw [hx] at ce
      clear hx
      gi_wp2
      gi_quiet (fail)
      gi_wp2
      go_roundw
      case rel=>exact ⟨e+1,by omega,by omega,by go_num,HSB.out,HJ.out _ _ _ HJ2.out (by first | exact below_of_drewN _ _ | exact below_of_drewN _ 1 | exact Below.refl _ _),HM2.out.below (by first | exact below_of_drewN _ _ | exact below_of_drewN _ 1 | exact Below.refl _ _)⟩
      case measure=>simp [intOf];omega
     ·have hxb:(text[e]==text[k])=false:=by simpa using hx
      have HD:=Lib.hid (runs_drop (text:=text) (k:=k) (e:=e) (x:=text[k]) hke hel HSA.out (fun _=>hx))
      gi_wp2
      gi_quiet (fail)
      have hx':=HT.out.trans HD.out
      have HPX:=Lib.hid (show (pre++[(text[k],e - k)])++runsL (text.drop e)=runsL text by rw [←HP.out,hx'];simp)
      have hy0:=HY.out pre (text[k],e - k) (wr.drewN nq) (HJ.out _ _ _ HJ2.out (below_of_drewN _ _)) ⟨_,HPX.out⟩
      clear hx'
      unfold encK at hy0
      have ec:((e - k:Nat):Int)=(e:Int) - (k:Int):=by omega
      obtain ⟨fn,tmps,assign,body,hy,hR⟩:=hy0
      dsimp only at hy
      rw [ec] at hy
      have HRR:=Lib.hid hR
      clear hR ec
      gi_wp2
      refine HRR.out.mono ?_
      rintro e' W3 ⟨rfl,hJ3,hk3⟩
      have hM3:=(HM2.out.below (below_of_drewN _ _)).keepY hk3 h1 H3.out
      clear hy HRR
      gi_wp2
      go_roundw
      case rel=>exact ⟨e,pre++[(text[k],e - k)],runsL (text.drop e),hel,by go_num,⟨HPX.out,rfl⟩,hJ3,hM3⟩
      case measure=>simp [intOf];omega
    ·clear hM2 hcell
     have HD:=Lib.hid (runs_drop (text:=text) (k:=k) (e:=e) (x:=text[k]) hke hel HSA.out (fun h=>absurd h he))
     gi_wp2
     gi_quiet (fail)
     have hx':=HT.out.trans HD.out
     have HPX:=Lib.hid (show (pre++[(text[k],e - k)])++runsL (text.drop e)=runsL text by rw [←HP.out,hx'];simp)
     have hy0:=HY.out pre (text[k],e - k) (wr.drewN nq) (HJ.out _ _ _ HJ2.out (below_of_drewN _ _)) ⟨_,HPX.out⟩
     clear hx'
     unfold encK at hy0
     have ec:((e - k:Nat):Int)=(e:Int) - (k:Int):=by omega
     obtain ⟨fn,tmps,assign,body,hy,hR⟩:=hy0
     dsimp only at hy
     rw [ec] at hy
     have HRR:=Lib.hid hR
     clear hR ec
     gi_wp2
     refine HRR.out.mono ?_
     rintro e' W3 ⟨rfl,hJ3,hk3⟩
     have hM3:=(HM2.out.below (below_of_drewN _ _)).keepY hk3 h1 H3.out
     clear hy HRR
     gi_wp2
     go_roundw
     case rel=>exact ⟨e,pre++[(text[k],e - k)],runsL (text.drop e),hel,by go_num,⟨HPX.out,rfl⟩,hJ3,hM3⟩
     case measure=>simp [intOf];omega
  ·gi_wp2
   go_end0
   have hr0:=HP.out
   rw [HT.out,List.drop_of_length_le (by omega),show runsL []=[] from rfl,List.append_nil] at hr0
   rw [hr0] at hJ1
   exact ⟨⟨_,rfl⟩,hJ1⟩
theorem kruns_any (A:Option Addr) (nt kt:Nat) (w:World) :
  Calls Tryz.prog 78 #[.slice A nt kt] w fun e w'=>
   e=.returned (.func (.func 126) #[] #[.pointer (some ⟨w.heap.size,0,none⟩)])∧w.alloc (.cells #[.slice A nt kt] 37)=w':=by
 go_enter Tryz.func78,Tryz.ntmps78
 go_wp2
 go_ret
 exact ⟨rfl,rfl⟩
end Go.Proofs.YtijgbonhjcblcaaGreatDoor
namespace Go.Proofs.YtijgbonhjcblcaaGreatDoor
open Go.RowKit Go.Maps Go.WideMaps
theorem and32 (c:Nat) (hc:c < 4294967296):bits .and .u64 (c:Int) 4294967295=(c:Int):=by
 have h1:=Nat.and_two_pow_sub_one_of_lt_two_pow (x:=c) (n:=32) hc
 have h2:=bits_and_u64_nat c 4294967295 (by omega) (by omega)
 rw [show c &&& 4294967295=c from h1] at h2
 exact h2
theorem mul64_any (c:Nat) (hc:c < 4294967296) (w:World):Calls Tryz.prog 153 #[.int .u64 1,.int .u64 c] w fun e w'=>e=.returned (.tuple #[.int .u64 0,.int .u64 c])∧w=w':=by
 have a0:bits .and .u64 0 4294967295=0:=by decide
 have a1:bits .and .u64 1 4294967295=1:=by decide
 have ac:=and32 c hc
 have ad:(c:Int) / 4294967296=0:=by omega
 go_enter Tryz.func153,Tryz.ntmps153
 go_wp2_with fail
 go_ret2
 exact ⟨rfl,rfl⟩
theorem mul_any (c:Nat) (hc:c < 4294967296) (w:World):Calls Tryz.prog 127 #[.int .u64 1,.int .u64 c] w fun e w'=>e=.returned (.tuple #[.int .u64 0,.int .u64 c])∧w=w':=by
 go_enter Tryz.func127,Tryz.ntmps127
 go_wp2_with fail
 refine (mul64_any c hc _).mono ?_
 rintro e w' ⟨rfl,rfl⟩
 go_wp2_with fail
 go_ret2
 exact ⟨rfl,rfl⟩
def rpC (n c:Nat) (v:Int):List Int:=List.replicate n v++List.replicate (c - n) 0
theorem rpC_splice {n c m:Nat} {v:Int}:splice ((rpC n c v).map (Value.int .i64)) n ((List.replicate m v).map (Value.int .i64))=(rpC (n+m) c v).map (Value.int .i64):=by
 unfold splice rpC
 have e1:((List.replicate n v++List.replicate (c - n) (0:Int)).map (Value.int .i64)).take n=(List.replicate n v).map (Value.int .i64):=by
  rw [List.map_append,List.take_append_of_le_length (by simp),List.take_of_length_le (by simp)]
 have e2:((List.replicate n v++List.replicate (c - n) (0:Int)).map (Value.int .i64)).drop (n+((List.replicate m v).map (Value.int .i64)).length)=(List.replicate (c - (n+m)) (0:Int)).map (Value.int .i64):=by
  simp only [List.map_append,List.map_replicate]
  rw [List.drop_append,List.drop_of_length_le (by simp),List.nil_append,List.drop_replicate]
  congr 1
  simp
  omega
 rw [e1,e2,←List.map_append,←List.map_append,←List.append_assoc,List.replicate_append_replicate]
theorem repeat_any (v:Int) (A:Option Addr) (k c:Nat) (w:World) (hA:Ints w A [v]) (hc:c≤1048576):Calls Tryz.prog 79 #[.slice A 1 k,.int .i64 c] w (RetOwnI (List.replicate c v) w):=by
 have KM:=Lib.hid (fun W=>mul_any c (by omega) W)
 have mk:=mk_ints c (by omega)
 obtain ⟨b,o,rfl,hcell⟩:=hA.at (k:=0) (by simp)
 have hc0:w.cell? ⟨b,o,none⟩=some (.int .i64 v):=hcell 0 (by simp)
 have hbl:=World.block_lt_of_cell? w _ hc0
 unfold RetOwnI
 clear hA hcell
 go_enter Tryz.func79,Tryz.ntmps79
 have q0:decide ((c:Int) < 0)=false:=by simp
 have q1:decide ((9223372036854775807:Int) < (c:Int))=false:=by simp;omega
 go_wp2_with fail
 with_reducible refine (KM.out _).mono ?_
 rintro e w' ⟨rfl,rfl⟩
 have W1E:∃W1,(w.alloc (.cells (repV c (Value.int .i64 0)).toArray 3))=W1:=⟨_,rfl⟩
 have X1:Box (w.alloc (.cells (repV c (Value.int .i64 0)).toArray 3)) w.heap.size 3 (repV c (Value.int .i64 0)):=Box.new _ _ _ rfl
 have B1:Below w.heap.size w (w.alloc (.cells (repV c (Value.int .i64 0)).toArray 3)):=(Below.refl _ _).alloc (Nat.le_refl _) _
 go_upto_region 7 with (fail)
 obtain ⟨W1,hW1⟩:=W1E
 try rw [hW1] at X1 B1 ⊢
 clear hW1 mk KM
 have e0:repV c (Value.int .i64 0)=(rpC 0 c v).map (Value.int .i64):=by simp [repV,rpC]
 rw [e0] at X1
 have hcb:=(B1.cell (p:=⟨b,o,none⟩) hbl).trans hc0
 obtain ⟨W2,hrun,hx2,hg2⟩:=run_copy_box (P:=Tryz.prog) W1 37 37 3 3 Tryz.underlying37 (by kernel_rfl) (some ⟨w.heap.size,0,none⟩) (some ⟨b,o,none⟩) c c 1 k w.heap.size 0 _ _ X1 ((List.replicate (min 1 c) v).map (Value.int .i64)) (by simp [Nat.min_def]) (fun hp=>⟨rfl,_,rfl,fun j u hu=>by
  have hj:j=0:=by
   have:=(List.getElem?_eq_some_iff.1 hu).1
   simp at this
   omega
  subst hj
  have hu':u=.int .i64 v:=by
   have hm:=List.mem_of_getElem? hu
   obtain ⟨z,hz,rfl⟩:=List.mem_map.1 hm
   rw [List.eq_of_mem_replicate hz]
  subst hu'
  exact hcb⟩) (by simp [rpC];omega) (fun u hu=>by obtain ⟨z,_,rfl⟩:=List.mem_map.1 hu;rfl)
 rw [rpC_splice] at hx2
 rw [List.length_map,List.length_replicate] at hrun
 have B2:Below w.heap.size w W2:=B1.grown hg2 B1.size (fun q e=>by injection e with e;omega)
 clear X1 hg2 hcb
 have HX2:=Lib.hid hx2
 have HB2:=Lib.hid B2
 clear hx2 B2 B1
 go_wp2_with fail
 clear hrun
 go_loopw [8] (fun u wr=>∃(n:Nat),n≤c∧(c≠0→1≤n)∧u=.int .i64 n∧Box wr w.heap.size 3 ((rpC n c v).map (Value.int .i64))∧Below w.heap.size w wr) (fun u _=>c - (intOf u).toNat)
 case atStart=>exact ⟨min 1 c,by omega,by omega,by first | rfl | go_num,by have:=HX2.out;rwa [Nat.zero_add] at this,HB2.out⟩
 obtain ⟨n,hn,hn1,rfl,hbx,hbr⟩:=hrel
 have HBX:=Lib.hid hbx
 have HBR:=Lib.hid hbr
 have hrs:=hbr.size
 by_cases hlt:n < c
 ·have g1:(n:Int) < (c:Int):=by omega
  have h1:=hn1 (by omega)
  have hcn:¬c=n:=by omega
  obtain ⟨m,hm⟩:∃m,min n (c - n)=m:=⟨_,rfl⟩
  have hm1:1≤m:=by omega
  have hm2:n+m≤c:=by omega
  have hm3:m≤n:=by omega
  have HMM:=Lib.hid hm
  have iw:IntKind.i64.wrap ((n:Int)+(m:Int))=((n+m:Nat):Int):=by rw [IntWalk.i64_in _ (by omega)];omega
  clear hn1 hm
  have SH:=Lib.hid (fun W' (hb':Below w.heap.size w W')=>hb')
  have CC:=Lib.hid (fun (W:World) (hX:Box W w.heap.size 3 ((rpC n c v).map (Value.int .i64)))=>show ∀j u,((List.replicate (m) v).map (Value.int .i64))[j]?=some u→W.cell? ((⟨w.heap.size,0,none⟩:Addr).add j)=some u from fun j u hu=>by
   have hj:j < m:=by
    have:=(List.getElem?_eq_some_iff.1 hu).1
    simpa using this
   have hu':u=.int .i64 v:=by
    have hm:=List.mem_of_getElem? hu
    obtain ⟨z,hz,rfl⟩:=List.mem_map.1 hm
    rw [List.eq_of_mem_replicate hz]
   subst hu'
   have hc:=hX.cell (i:=j) (v:=.int .i64 v) (by
    unfold rpC
    rw [List.getElem?_map,List.getElem?_append_left (by simp;omega),List.getElem?_replicate,if_pos (by omega)]
    rfl)
   have ea:(⟨w.heap.size,0,none⟩:Addr).add j=⟨w.heap.size,j,none⟩:=by
    unfold Addr.add
    split
    ·next h0=>subst h0;rfl
    ·simp
   rw [ea]
   exact hc)
  go_wp2_with fail
  refine wp_region_held_drew (S:=fun W'=>Below w.heap.size w W') (by kernel_rfl) (SH.out _ (HBR.out.drew)) (fun hHeld=>?_)
  refine tK 0 38 ?_
  refine tK 1 39 ?_
  refine tK 2 40 ?_
  refine tV 3 41 (.slice (some ⟨w.heap.size,n,none⟩) (c - n) (c - n)) ?_ ?_
  ·intro w hSw;(try dsimp only at hSw);go_split_ands;go_simp;try rw [if_neg hcn]
  try simp only [Act.put,List.setIfInBounds_toArray,List.set_cons_zero,List.set_cons_succ]
  refine tK 4 42 ?_
  refine tK 5 43 ?_
  refine tK 6 44 ?_
  refine anyH_copy (i:=7) (some 45) rfl rfl (by kernel_rfl) (by rfl) (.tmp 41) (.tmp 44) 37 37 rfl 3 Tryz.underlying37 (by kernel_rfl) (some ⟨w.heap.size,n,none⟩) (some ⟨w.heap.size,0,none⟩) (c - n) (c - n) n c rfl rfl w.heap.size n _ 3 (show Box wr.drew w.heap.size 3 ((rpC n c v).map (Value.int .i64)) from HBX.out) ((List.replicate m v).map (Value.int .i64)) (by rw [List.length_map,List.length_replicate];exact HMM.out.symm) (fun hp=>⟨rfl,_,rfl,CC.out _ HBX.out⟩) (by simp [rpC];omega) (fun u hu=>by obtain ⟨z,_,rfl⟩:=List.mem_map.1 hu;rfl) ?_
  rintro w5 hx5 hg5
  rw [rpC_splice] at hx5
  have HX5:=Lib.hid hx5
  have hb5:Below w.heap.size w w5:=hHeld.grown hg5 hrs (fun q e=>by injection e with e;omega)
  refine ⟨hb5,?_⟩
  clear hHeld
  have hHeld:=hb5
  clear hx5 hg5 hb5
  rw [List.length_map,List.length_replicate]
  try simp only [Act.put,List.setIfInBounds_toArray,List.set_cons_zero,List.set_cons_succ]
  refine tK 8 46 ?_
  refine tK 9 8 ?_
  refine wpAnyH_done (by kernel_rfl) ?_ _
  have hfin:=hHeld
  clear hHeld SH CC
  go_wp2_with fail
  go_roundw
  case rel=>exact ⟨n+m,by omega,by omega,by first | (rw [iw]) | go_num | (simp),HX5.out,hfin⟩
  case measure=>simp only [intOf];omega
 ·obtain rfl:n=c:=by omega
  have hx:=HBX.out
  have e9:rpC n n v=List.replicate n v:=by unfold rpC;simp
  rw [e9] at hx
  go_wp2_with fail
  go_ret
  refine ⟨some ⟨w.heap.size,0,none⟩,n,by simp,?_,hbr⟩
  rw [List.length_replicate]
  exact ⟨by simp,.inr ⟨w.heap.size,n,_,rfl,Nat.le_refl _,hx,Nat.le_refl _,by unfold maxLen;omega,by simp,by simp⟩⟩
end Go.Proofs.YtijgbonhjcblcaaGreatDoor
namespace Go.Proofs.YtijgbonhjcblcaaGreatDoor
open Go.RowKit Go.Shelf
theorem grown_of_below {W W':World} (h:Below W.heap.size W W'):W.grownBy W' none:=⟨h.os,h.tape,h.output,h.size,fun k hk _=>h.block k hk⟩
theorem own_bel {β:Type} {B:Nat} {I:β→World→Prop} (h:OwnFrom B I) {s:β} {W W':World} (hs:I s W) (hb:Below W.heap.size W W'):I s W':=
 h s W W' none hs (grown_of_below hb) (fun r e=>by cases e)
theorem wpIn_range_all {α:Type} {F:Fence} {n:Nat} {P:Program} {g:Operand} {ps:Array Tmp} {assign body:Code} {Q:Exit→Act→World→Prop} {a:Act} {w:World}
  (hro:F.round=none) (h1:1≤n) {gf:Nat} {lb:Array Value} (hg:a.eval g=.func (.func gf) #[] lb) (hFg:F.fn gf) (eg:∀args w,(callFunc gf args).run P w=.ok (.enter gf args) w)
  {encs:α→Array Value} {Kp:World→World→Prop} {all:List α}
  (hseq:∀(l:Nat) (J:List α→World→Prop),(∀pre W W',J pre W→Below W.heap.size W W'→J pre W')→
   (∀pre x W,J pre W→(pre++[x]) <+: all→YieldAt F (n - 1 - 1) P l (encs x) W fun e W'=>e=.returned (.bool true)∧J (pre++[x]) W'∧Kp W W')→
   ∀W,Below w.heap.size w W→J [] W→CallsIn F (n - 1) P gf (#[.func (.yield l) #[] #[]]++lb) W fun e W'=>(∃v,e=.returned v)∧J all W')
  (hKt:∀{A B C:World},Kp A B→Kp B C→Kp A C) (hKb:∀(W:World) (l:Nat) (o o':Obj),w.heap.size≤l→W.heap[l]?=some o→o.isCells=false→o.isWalk=false→Kp W (W.putObj l o')) (hps:∀x,(encs x).size=ps.size)
  (I:List α→World→Prop) (hI:OwnFrom w.heap.size I) (h0:I [] w) (Ax:α→Act→World→Prop) (hAx:∀x a',OwnFrom w.heap.size (fun (_:Unit) W=>Ax x a' W))
  (hassign:∀(l:Nat) (pre:List α) (x:α) (W:World) (K:Act→World→Prop),I pre W→(∀a' W',KeepsFrom w.heap.size W W'→Kp W W'→I pre W'→Ax x a' W'→K a' W')→
   assign.wpIn (F.inRound l) (n - 1 - 1) P (Exit.then K (fun _ _ _=>False)) { tmps:=(ps.zip (encs x)).foldl (fun t (p,v)=>t.setIfInBounds p v) a.tmps,defers:=[] } W)
  (hbody:∀(l:Nat) (pre:List α) (x:α) (a':Act) (W:World),I pre W→Ax x a' W→(pre++[x]) <+: all→body.wpIn (F.inRound l) (n - 1 - 1) P (ownPostG w.heap.size Kp I (fun _ _ _=>False) (pre++[x]) W) a' W)
  (hdone:∀(D:Nat) (W:World),w.heap.size≤D→I all W→W.heap[D]?=some (.deferred (some []))→Q .normal { a with defers:={ target:=.collected D,args:=#[] }::a.defers } W) :
  (Code.rangeFunc g ps assign body).wpIn F n P Q a w:=by
 refine wpIn_rangeFunc ?_
 intro fn hfn
 rw [hro]
 obtain ⟨rec,hrec⟩:∃rec:LoopState→Option Code→Loop,rec=fun st pe=>{ state:=st,pending:=pe,fn,tmps:=a.tmps,params:=ps,assign,body,defers:=w.heap.size }:=⟨_,rfl⟩
 obtain ⟨W1,hW1⟩:∃W1,(w.alloc (.deferred (some []))).alloc (.loop (rec .ready none))=W1:=⟨_,rfl⟩
 have hL1:W1.heap[w.heap.size+1]?=some (.loop (rec .ready none)):=by
  rw [←hW1];have:=World.alloc_heap_new (w.alloc (.deferred (some []))) (.loop (rec .ready none));rwa [World.size_alloc] at this
 have hK1:W1.heap[w.heap.size]?=some (.deferred (some [])):=by
  rw [←hW1];exact (Below.heap_alloc _ _ _ (by simp)).trans (World.alloc_heap_new w _)
 have hI1:I [] W1:=by rw [←hW1];exact hI.alloc _ (hI.alloc _ h0)
 have hb1:Below w.heap.size w W1:=by
  rw [←hW1];exact ((Below.refl _ w).alloc (Nat.le_refl _) _).alloc (by simp) _
 refine ⟨w.heap.size+1,[{ target:=.collected w.heap.size,args:=#[] }],W1,{ target:=.fn (.func gf) lb,args:=#[.func (.yield (w.heap.size+1)) #[] #[]] },W1,gf,
  #[.func (.yield (w.heap.size+1)) #[] #[]]++lb,W1,?_,?_,?_,?_,fun _=>h1,?_⟩
 ·rw [←hW1,hrec];exact run_enterLoop_outer _ _ _ _ _
 ·simp only [resolve,hg]
  simp [go_sem]
 ·intro f' hf';simp [Target.leads] at hf';subst hf';exact hFg
 ·simp [invoke,go_sem,eg]
 ·refine (hseq (w.heap.size+1)
   (fun pre W=>I pre W∧W.heap[w.heap.size+1]?=some (.loop (rec .ready none))∧W.heap[w.heap.size]?=some (.deferred (some [])))
   (fun pre W W' hs hb=>⟨own_bel hI hs.1 hb,(hb.block _ (Array.getElem?_eq_some_iff.1 hs.2.1).1).trans hs.2.1,(hb.block _ (Array.getElem?_eq_some_iff.1 hs.2.2).1).trans hs.2.2⟩)
   ?_ W1 hb1 ⟨hI1,hL1,hK1⟩).mono ?_
  ·rintro pre x W ⟨hi,hl,hk⟩ hlen
   have hlt:w.heap.size+1 < W.heap.size:=(Array.getElem?_eq_some_iff.1 hl).1
   have hy:=run_yield (P:=P) (args:=encs x) hl (by rw [hrec];exact hps x)
   rw [hrec] at hy
   refine ⟨fn,_,assign,body,hy,roundIn_of_wpIn hfn (hassign _ pre x W _ hi ?_)⟩
   clear hy
   intro a' Wa hkfa hkpa hia hax
   replace hl:=hkfa.same _ _ (by omega) hl rfl
   replace hk:=hkfa.same _ _ (Nat.le_refl _) hk rfl
   replace hlt:w.heap.size+1 < Wa.heap.size:=(Array.getElem?_eq_some_iff.1 hl).1
   replace hi:=hia
   clear hia
   revert hkpa hkfa
   generalize W=Wb
   intro hkfa hkpa
   obtain ⟨W,rfl⟩:∃W,W=Wa:=⟨_,rfl⟩
   refine ⟨_,run_beginRound hl (by rw [hrec]),?_⟩
   have hl2:(W.putObj (w.heap.size+1) (.loop { rec .ready none with state:=.busy })).heap[w.heap.size+1]?=some (.loop { rec .ready none with state:=.busy }):=World.putObj_heap_same hlt
   have hk2:(W.putObj (w.heap.size+1) (.loop { rec .ready none with state:=.busy })).heap[w.heap.size]?=some (.deferred (some [])):=(World.putObj_heap_other (by omega)).trans hk
   have hw2:Kp W (W.putObj (w.heap.size+1) (.loop { rec .ready none with state:=.busy })):=hKb _ _ _ _ (by omega) hl rfl rfl
   refine wpIn_mono (hbody _ pre x a' _ (hI.putObj _ hi (by omega) hl rfl) ((hAx x a').putObj (s:=()) _ hax (by omega) hl rfl) hlen) ?_
   rintro e a3 W3 hp
   cases e with
   | normal=>
    obtain ⟨hk3,hkp3,hi3⟩:=hp
    have hl3:=hk3.same _ _ (by omega) hl2 rfl
    have hr:=run_endRound (P:=P) none hl3
    have hl4:(W3.putObj (w.heap.size+1) (.loop (rec .ready none))).heap[w.heap.size+1]?=some (.loop (rec .ready none)):=World.putObj_heap_same (Array.getElem?_eq_some_iff.1 hl3).1
    have hk4:(W3.putObj (w.heap.size+1) (.loop (rec .ready none))).heap[w.heap.size]?=some (.deferred (some [])):=(World.putObj_heap_other (by omega)).trans (hk3.same _ _ (Nat.le_refl _) hk2 rfl)
    rw [hrec] at hr hl3 hl4 hk4 ⊢
    rw [hrec] at hkp3 hw2
    exact ⟨_,_,hr,rfl,⟨hI.putObj _ hi3 (by omega) hl3 rfl,hl4,hk4⟩,hKt hkpa (hKt (hKt hw2 hkp3) (hKb _ _ _ _ (by omega) hl3 rfl rfl))⟩
   | ret=>exact hp.2.elim
   | exit id=>exact hp.2.elim
   | goto t=>exact hp.2.elim
   | panic ch=>exact hp.elim
   | outgrown=>exact hp.elim
  ·rintro e W2 ⟨⟨v,rfl⟩,hi,hl,hk⟩
   exact ⟨none,_,by have:=run_endLoop (P:=P) hl (by rw [hrec];simp);rw [hrec] at this;exact this,hdone _ _ (Nat.le_refl _) (hI.putObj _ hi (by omega) hl rfl) ((World.putObj_heap_other (by omega)).trans hk)⟩
theorem wpIn_range_two {F:Fence} {n:Nat} {P:Program} {g:Operand} {p1 p2:Tmp} (t1 t2:Nat) {assign body:Code} {Q:Exit→Act→World→Prop} {a:Act} {w:World}
  (hro:F.round=none) (h1:1≤n) {gf:Nat} {lb:Array Value} (hg:a.eval g=.func (.func gf) #[] lb) (hFg:F.fn gf) (eg:∀args w,(callFunc gf args).run P w=.ok (.enter gf args) w)
  {Kp:World→World→Prop} {all:List (Int × Nat)}
  (hseq:∀(l:Nat) (J:List (Int × Nat)→World→Prop),(∀pre W W',J pre W→Below W.heap.size W W'→J pre W')→
   (∀pre x W,J pre W→(pre++[x]) <+: all→YieldAt F (n - 1 - 1) P l (encK x) W fun e W'=>e=.returned (.bool true)∧J (pre++[x]) W'∧Kp W W')→
   ∀W,Below w.heap.size w W→J [] W→CallsIn F (n - 1) P gf (#[.func (.yield l) #[] #[]]++lb) W fun e W'=>(∃v,e=.returned v)∧J all W')
  (hKt:∀{A B C:World},Kp A B→Kp B C→Kp A C) (hKr:∀W,Kp W W) (hKb:∀(W:World) (l:Nat) (o o':Obj),w.heap.size≤l→W.heap[l]?=some o→o.isCells=false→o.isWalk=false→Kp W (W.putObj l o'))
  (I:List (Int × Nat)→World→Prop) (hI:OwnFrom w.heap.size I) (h0:I [] w)
  (hassign:∀(l:Nat) (x:Int × Nat) (W:World) (K:Act→World→Prop),K { tmps:=(((a.tmps.setIfInBounds p1 (.int .i64 x.1)).setIfInBounds p2 (.int .i64 (x.2:Int))).setIfInBounds t1 (.int .i64 x.1)).setIfInBounds t2 (.int .i64 (x.2:Int)),defers:=[] } W→
   assign.wpIn (F.inRound l) (n - 1 - 1) P (Exit.then K (fun _ _ _=>False)) { tmps:=(a.tmps.setIfInBounds p1 (.int .i64 x.1)).setIfInBounds p2 (.int .i64 (x.2:Int)),defers:=[] } W)
  (hbody:∀(l:Nat) (pre:List (Int × Nat)) (x:Int × Nat) (W:World),I pre W→(pre++[x]) <+: all→body.wpIn (F.inRound l) (n - 1 - 1) P (ownPostG w.heap.size Kp I (fun _ _ _=>False) (pre++[x]) W) { tmps:=(((a.tmps.setIfInBounds p1 (.int .i64 x.1)).setIfInBounds p2 (.int .i64 (x.2:Int))).setIfInBounds t1 (.int .i64 x.1)).setIfInBounds t2 (.int .i64 (x.2:Int)),defers:=[] } W)
  (hdone:∀(D:Nat) (W:World),w.heap.size≤D→I all W→W.heap[D]?=some (.deferred (some []))→Q .normal { a with defers:={ target:=.collected D,args:=#[] }::a.defers } W) :
  (Code.rangeFunc g #[p1,p2] assign body).wpIn F n P Q a w:=
 wpIn_range_all hro h1 hg hFg eg (encs:=encK) hseq (fun h k=>hKt h k) hKb (fun _=>rfl) I hI h0
  (fun x a' _=>a'={ tmps:=(((a.tmps.setIfInBounds p1 (.int .i64 x.1)).setIfInBounds p2 (.int .i64 (x.2:Int))).setIfInBounds t1 (.int .i64 x.1)).setIfInBounds t2 (.int .i64 (x.2:Int)),defers:=[] })
  (fun _ _ _ _ _ _ hs _ _=>hs)
  (fun l pre x W K hi hk=>by
   have e:(#[p1,p2].zip (encK x)).foldl (fun t (p,v)=>t.setIfInBounds p v) a.tmps=(a.tmps.setIfInBounds p1 (.int .i64 x.1)).setIfInBounds p2 (.int .i64 (x.2:Int)):=by simp [encK]
   rw [e]
   exact hassign l x W K (hk _ W (KeepsFrom.refl _ _) (hKr W) hi rfl))
  (fun l pre x a' W hi ha hp=>by subst ha;exact hbody l pre x W hi hp)
  hdone
def Stepr (n₀ p q:Nat) (W W':World):Prop:=KeepsFrom n₀ W W'∧KeepY n₀ p q W W'
theorem Stepr.refl (n₀ p q:Nat) (W:World):Stepr n₀ p q W W:=⟨KeepsFrom.refl _ _,KeepY.refl _ _ _ _⟩
theorem Stepr.trans {n₀ p q:Nat} {A B C:World} (h:Stepr n₀ p q A B) (k:Stepr n₀ p q B C):Stepr n₀ p q A C:=⟨h.1.trans k.1,h.2.trans k.2⟩
theorem Stepr.set {n₀ p q b:Nat} (hb:b=p∨b=q) (W:World) (v:Value):Stepr n₀ p q W (W.setCell ⟨b,0,none⟩ v):=
 ⟨(KeepsOthers.setCell _ _ _).from _,(grown_set W ⟨b,0,none⟩ v).size,fun k _ h1 h2=>Below.heap_setCell W ⟨b,0,none⟩ v k (fun e=>by
  rcases hb with rfl | rfl
  ·exact h1 e
  ·exact h2 e)⟩
theorem Stepr.below {n₀ p q:Nat} {W W':World} (h:Below W.heap.size W W') (hn:n₀≤W.heap.size):Stepr n₀ p q W W':=
 ⟨KeepsFrom.of_grownBy (grown_of_below h) (fun _ e=>by cases e),KeepY.of_below (h.mono hn)⟩
theorem Stepr.app {n₀ p q:Nat} {W W':World} {e:TypeId} {size n:Nat} {v:Value} {xs:List Value} (hown:W.ownsRow n₀ e size v n xs) (hg:W.grownBy W' v.ownBlock) (hn:n₀≤W.heap.size):Stepr n₀ p q W W':=by
 refine ⟨(KeepsOthers.of_grownBy hg (fun j o he ho=>?_)).from _,hg.size,fun k hk _ _=>hg.block k (by omega) (fun e=>by have:=hown.lt k e.symm;omega)⟩
 rcases hown.2 with ⟨rfl,_⟩ | ⟨g,cap,cur,rfl,_,hgb,_⟩
 ·cases he
 ·cases he
  rw [hgb] at ho
  cases ho
  rfl
end Go.Proofs.YtijgbonhjcblcaaGreatDoor
namespace Go.Proofs.YtijgbonhjcblcaaGreatDoor
open Go.RowKit
section
variable {P:Program} {ops:Array Oper} {Q:Exit→Act→World→Prop} {l n:Nat}
theorem calls_round {f:FuncId} {args:Array Value} {w:World} {R:Ending→World→Prop} (h:Calls P f args w R):CallsIn (Fence.wide.inRound l) n P f args w R:=CallsIn.inRound l (callsIn_wide.2 h)
theorem rows_round {row:String} {args:Array Value} {w:World} {R:Value→World→Prop} (h:Rows P row args w R):RowsIn (Fence.wide.inRound l) n P row args w R:=
 fun c cs _=>let ⟨v,w',r,s⟩:=h c cs;⟨v,w',r,stepsIn_wide.2 s⟩
theorem oper_round {o:Oper} {a:Act} {w:World} {K:Act→World→Prop} (hpl:∀c,o.op≠.defer c) (h:o.wp P a w K Q):o.wpIn (Fence.wide.inRound l) n P a w K Q:=by
 refine ⟨fun _ _=>trivial,?_⟩
 rw [Oper.semAt_plain (Fence.wide.inRound l) _ _ hpl]
 unfold Oper.wp at h
 generalize (execOp a.eval o).run P w=r at *
 cases r with
 | ok x w'=>
  cases x with
  | enter f args=>exact ⟨fun hd=>by simp [Fence.wide,Fence.inRound] at hd,calls_round h⟩
  | row r args=>exact ⟨fun hd=>by simp [Fence.wide,Fence.inRound] at hd,rows_round h⟩
  | _=>first | exact h | exact h.elim
 | halt x w'=>
  cases x with
  | _=>first | exact h | exact h.elim
theorem ops_round (hL:¬LetsOut Q) (hpl:∀(i:Nat) (o:Oper),ops[i]?=some o→∀c,o.op≠Op.defer c):∀(L:List Nat) (a:Act) (w:World),wpOps P ops Q L a w→wpOpsIn (Fence.wide.inRound l) n P ops Q L a w
 | [],_,_,h=>h
 | i::rest,a,w,h=>by
  unfold wpOps at h
  unfold wpOpsIn
  cases ho:ops[i]? with
  | none=>
   simp only [ho] at h ⊢
   exact ops_round hL hpl rest a w h
  | some o=>
   simp only [ho] at h ⊢
   by_cases hw:Region.wanted o (yielded ops a.tmps)=true
   ·rw [if_pos hw] at h ⊢
    rcases h with h | h
    ·exact oper_round (hpl i o ho) (Oper.wp_mono (fun a w=>ops_round hL hpl rest a w) h)
    ·exact absurd h.2 hL
   ·rw [if_neg hw] at h ⊢
    exact ⟨fun _ _=>trivial,ops_round hL hpl rest _ _ h⟩
def plainOps (ops:Array Oper):Bool:=ops.toList.all fun o=>match o.op with
 | .defer _=>false
 | _=>true
theorem plain_of (h:plainOps ops=true):∀(i:Nat) (o:Oper),ops[i]?=some o→∀c,o.op≠Op.defer c:=by
 intro i o ho c hc
 have h1:=List.all_eq_true.1 h o (by rw [←Array.getElem?_toList] at ho;exact List.mem_of_getElem? ho)
 rw [hc] at h1
 cases h1
theorem wpIn_region_round {S:World→Prop} {id:Nat} {a:Act} {w:World} (hm:P.follows .mixedOrders=true) (hL:¬LetsOut Q) (hpl:plainOps ops=true) (hS:S w.drew)
  (h:S w.drew→wpAnyH P .any ops Q S ops.size (Array.replicate ops.size false) a w.drew):(Code.region id ops true).wpIn (Fence.wide.inRound l) n P Q a w:=
 wpIn_region_draw fun t=>ops_round hL (plain_of hpl) _ a _ (by
  simp only [Region.schedule,hm,Bool.true_or,if_true]
  exact wpAny_sound ops.size t _ a _ (wpAny_of_held _ _ _ _ (h hS)))
end
end Go.Proofs.YtijgbonhjcblcaaGreatDoor
