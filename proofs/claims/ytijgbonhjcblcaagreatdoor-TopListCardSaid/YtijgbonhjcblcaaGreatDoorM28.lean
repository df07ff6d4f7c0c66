/- Texts that are merged into one file: TlSort, SmallC, TpSet. -/
import Derived.Test.YtijgbonhjcblcaaGreatDoorM05
import Derived.Test.YtijgbonhjcblcaaGreatDoorM07
import Derived.Test.YtijgbonhjcblcaaGreatDoorM08
import Derived.Test.YtijgbonhjcblcaaGreatDoorM11
import Derived.Test.YtijgbonhjcblcaaGreatDoorM12
import Derived.Test.YtijgbonhjcblcaaGreatDoorM14
import Derived.Test.YtijgbonhjcblcaaGreatDoorM15
import Derived.Test.YtijgbonhjcblcaaGreatDoorM16
import Derived.Test.YtijgbonhjcblcaaGreatDoorM27
set_option maxRecDepth 100000
set_option maxHeartbeats 51200000
namespace Go.Proofs.YtijgbonhjcblcaaGreatDoor
open Go.RowKit Go.Maps Go.WideMaps
theorem getD_lt {α:Type} {l:List α} {i:Nat} (h:i < l.length) (d:α):l.getD i d=l[i]:=by simp [List.getD,h]
def rkL (ks:List (List Int)) (u:List Int):Int:=(ks.countP (fun k=>decide (cmpL k u < 0)):Nat)
theorem cmpL_neg_iff (u v:List Int):cmpL u v < 0 ↔ 0 < cmpL v u:=by have:=Pk.cmp_neg u v;omega
theorem cmpL_le_lt {a b c:List Int} (h1:cmpL a b < 0) (h2:¬cmpL c b < 0):cmpL a c < 0:=by
 rcases cmpL_vals c b with h | h | h
 ·omega
 ·rw [(cmpL_eq_zero _ _).1 h];exact h1
 ·exact cmpL_lt_trans h1 ((cmpL_neg_iff b c).2 (by omega))
theorem rk_mono {ks:List (List Int)} {u v:List Int} (h:¬cmpL v u < 0):rkL ks u≤rkL ks v:=by
 unfold rkL
 have:=List.countP_mono_left (l:=ks) (p:=fun k=>decide (cmpL k u < 0)) (q:=fun k=>decide (cmpL k v < 0)) (fun k _ hk=>by
  have hk':cmpL k u < 0:=by simpa using hk
  simpa using cmpL_le_lt hk' h)
 omega
theorem rk_lt {ks:List (List Int)} {u v:List Int} (hu:u ∈ ks):cmpL u v < 0 ↔ rkL ks u < rkL ks v:=by
 constructor
 ·intro h
  have h1:=rk_mono (ks:=ks) (u:=u) (v:=v) (fun q=>by have:=cmpL_lt_trans h q;rw [cmpL_self] at this;omega)
  obtain ⟨s,t,rfl⟩:=List.append_of_mem hu
  have a1:=List.countP_mono_left (l:=s) (p:=fun k=>decide (cmpL k u < 0)) (q:=fun k=>decide (cmpL k v < 0)) (fun k _ hk=>by
   have hk':cmpL k u < 0:=by simpa using hk
   simpa using cmpL_lt_trans hk' h)
  have a2:=List.countP_mono_left (l:=t) (p:=fun k=>decide (cmpL k u < 0)) (q:=fun k=>decide (cmpL k v < 0)) (fun k _ hk=>by
   have hk':cmpL k u < 0:=by simpa using hk
   simpa using cmpL_lt_trans hk' h)
  unfold rkL
  rw [List.countP_append,List.countP_append,List.countP_cons,List.countP_cons]
  have q1:decide (cmpL u u < 0)=false:=by rw [cmpL_self];rfl
  have q2:decide (cmpL u v < 0)=true:=decide_eq_true h
  rw [q1,q2]
  simp only [Bool.false_eq_true,if_false,if_true]
  omega
 ·intro h
  apply Classical.not_not.1
  intro q
  have:=rk_mono (ks:=ks) (u:=v) (v:=u) q
  omega
def rkI (ks:List (List Int)) (z:Int):Int:=rkL ks (ks.getD z.toNat [])
def OrdI (ks:List (List Int)) (a b:Int):Prop:=cmpL (ks.getD a.toNat []) (ks.getD b.toNat []) < 0∨(cmpL (ks.getD a.toNat []) (ks.getD b.toNat [])=0∧a < b)
def rngI (n:Nat):List Int:=(List.range n).map (fun (i:Nat)=>(i:Int))
theorem rngI_mem {n:Nat} {z:Int} (h:z ∈ rngI n):0≤z∧z < n:=by
 unfold rngI at h
 obtain ⟨i,hi,rfl⟩:=List.mem_map.1 h
 have:=List.mem_range.1 hi
 omega
theorem rngI_pw (n:Nat):(rngI n).Pairwise (· < ·):=by
 unfold rngI
 rw [List.pairwise_map]
 exact List.pairwise_lt_range.imp (fun h=>by omega)
theorem done_ord {ks:List (List Int)} {d':List Int} {n:Nat} (hn:ks.length=n) (h:Srt.Done (rkI ks) (rngI n) d' 0 n):d'.Pairwise (OrdI ks)∧(∀z,z ∈ d' ↔ z ∈ rngI n)∧d'.length=n:=by
 obtain ⟨h1,h2,h3⟩:=h
 have hlen:d'.length=n:=by rw [h1.1];simp [rngI]
 have hmem:∀z,z ∈ d' ↔ z ∈ rngI n:=by
  intro z
  have e:=h2 (rkI ks z)
  constructor
  ·intro hz
   have:z ∈ d'.filter (fun x=>rkI ks x==rkI ks z):=List.mem_filter.2 ⟨hz,by simp⟩
   rw [e] at this
   exact (List.mem_filter.1 this).1
  ·intro hz
   have:z ∈ (rngI n).filter (fun x=>rkI ks x==rkI ks z):=List.mem_filter.2 ⟨hz,by simp⟩
   rw [←e] at this
   exact (List.mem_filter.1 this).1
 have hasc:d'.Pairwise (fun a b=>rkI ks a≤rkI ks b):=by
  rw [List.pairwise_iff_getElem]
  intro i j hi hj hij
  have:=h3 i j (Nat.zero_le _) hij (by omega)
  unfold Srt.kf at this
  rw [List.getElem?_eq_getElem hi,List.getElem?_eq_getElem hj] at this
  exact this
 refine ⟨?_,hmem,hlen⟩
 rw [List.pairwise_iff_forall_sublist] at hasc ⊢
 intro a b hs
 have hab:=hasc hs
 have ma:a ∈ d':=hs.subset (by simp)
 have mb:b ∈ d':=hs.subset (by simp)
 have ka:=rngI_mem ((hmem a).1 ma)
 have kb:=rngI_mem ((hmem b).1 mb)
 have ga:ks.getD a.toNat [] ∈ ks:=by
  have:a.toNat < ks.length:=by omega
  rw [getD_lt this];exact List.getElem_mem this
 have gb:ks.getD b.toNat [] ∈ ks:=by
  have:b.toNat < ks.length:=by omega
  rw [getD_lt this];exact List.getElem_mem this
 unfold OrdI
 by_cases hlt:cmpL (ks.getD a.toNat []) (ks.getD b.toNat []) < 0
 ·exact .inl hlt
 ·have e:rkI ks a=rkI ks b:=by
   have:¬rkL ks (ks.getD a.toNat []) < rkL ks (ks.getD b.toNat []):=fun q=>hlt ((rk_lt (ks:=ks) ga).2 q)
   unfold rkI at *
   omega
  refine .inr ⟨?_,?_⟩
  ·rcases cmpL_vals (ks.getD a.toNat []) (ks.getD b.toNat []) with g | g | g
   ·omega
   ·exact g
   ·have g2:cmpL (ks.getD b.toNat []) (ks.getD a.toNat []) < 0:=(cmpL_neg_iff _ _).2 (by omega)
    have:=(rk_lt (ks:=ks) gb).1 g2
    unfold rkI at e
    omega
  ·have hf:=hs.filter (fun x=>rkI ks x==rkI ks b)
   rw [h2 (rkI ks b)] at hf
   have hp:=(List.Pairwise.filter (fun x=>rkI ks x==rkI ks b) (rngI_pw n)).sublist hf
   have e1:(rkI ks a==rkI ks b)=true:=by simp [e]
   have e2:(rkI ks b==rkI ks b)=true:=by simp
   rw [List.filter_cons,if_pos e1,List.filter_cons,if_pos e2] at hp
   have:=List.rel_of_pairwise_cons hp (a':=b) (by simp)
   exact this
theorem rowsN_set {K:List Int→List Int} {l:List (List Int)} {i:Nat} (hi:i < l.length):((l.take i).map K++List.replicate (l.length - i) []).set i (K l[i])=(l.take (i+1)).map K++List.replicate (l.length - (i+1)) []:=by
 have h1:((l.take i).map K).length=i:=by rw [List.length_map,List.length_take];omega
 rw [List.set_append_right _ _ (by omega),h1,Nat.sub_self,show l.length - i=(l.length - (i+1))+1 by omega,List.replicate_succ,List.set_cons_zero,List.take_succ_eq_append_getElem hi,List.map_append,List.append_assoc]
 rfl
theorem fill_set {n i:Nat} (hi:i < n):(((rngI i)++List.replicate (n - i) 0).set i (i:Int))=rngI (i+1)++List.replicate (n - (i+1)) 0:=by
 have h1:(rngI i).length=i:=by simp [rngI]
 rw [List.set_append_right _ _ (by omega),h1,Nat.sub_self,show n - i=(n - (i+1))+1 by omega,List.replicate_succ,List.set_cons_zero]
 unfold rngI
 rw [List.range_succ,List.map_append,List.append_assoc]
 rfl
theorem keys_any (A0:Option Addr) (n0 k0:Nat) (A1:Option Addr) (n1 k1:Nat) (A2:Option Addr) (n2 k2:Nat) (x:Nrm) (C:Option Addr) (n a:Nat) (B:Option Addr) (m b:Nat) (c:Col) (o:Opt) (T:Option Addr) (tk:Nat) (l:List (List Int)) (w:World) (hN:NrmAt w A0 n0 A1 n1 A2 n2 x) (hz:NrmSz x) (hL:Laid w) (hC:ColAt w C n B m c) (hcz:ColSz c) (hT:Txts w T l) (hl:l.length≤19) (h6:∀t ∈ l,t.length≤16384) :
  Calls Tryz.prog 55 #[.agg #[.slice A0 n0 k0,.slice A1 n1 k1,.slice A2 n2 k2],.agg #[.slice C n a,.slice B m b,.int .i64 c.base,.int .i64 c.second,.int .i64 c.third],.agg #[.int .i64 o.st,.int .i64 o.va,.bool o.bk,.bool o.idn],.slice T l.length tk] w fun e w'=>∃g,e=.returned (.slice (some ⟨g,0,none⟩) l.length l.length)∧w.heap.size≤g∧BoxRows w' g (l.map (kyN x c o))∧Below w.heap.size w w':=by
 have B0:Below w.heap.size w (((w.alloc (.cells #[.slice A0 n0 k0,.slice A1 n1 k1,.slice A2 n2 k2] 28)).alloc (.cells #[.slice C n a,.slice B m b,.int .i64 c.base,.int .i64 c.second,.int .i64 c.third] 32)).alloc (.cells #[.int .i64 o.st,.int .i64 o.va,.bool o.bk,.bool o.idn] 34)):=(by repeat (first | exact Below.refl _ _ | refine Below.alloc ?_ (by (try simp) <;> omega) _))
 have X0:Box (((w.alloc (.cells #[.slice A0 n0 k0,.slice A1 n1 k1,.slice A2 n2 k2] 28)).alloc (.cells #[.slice C n a,.slice B m b,.int .i64 c.base,.int .i64 c.second,.int .i64 c.third] 32)).alloc (.cells #[.int .i64 o.st,.int .i64 o.va,.bool o.bk,.bool o.idn] 34)) (w.heap.size) 28 [.slice A0 n0 k0,.slice A1 n1 k1,.slice A2 n2 k2]:=bx_alloc (bx_alloc (Box.new w 28 [.slice A0 n0 k0,.slice A1 n1 k1,.slice A2 n2 k2] rfl) _) _
 have X1:Box (((w.alloc (.cells #[.slice A0 n0 k0,.slice A1 n1 k1,.slice A2 n2 k2] 28)).alloc (.cells #[.slice C n a,.slice B m b,.int .i64 c.base,.int .i64 c.second,.int .i64 c.third] 32)).alloc (.cells #[.int .i64 o.st,.int .i64 o.va,.bool o.bk,.bool o.idn] 34)) (w.heap.size+1) 32 [.slice C n a,.slice B m b,.int .i64 c.base,.int .i64 c.second,.int .i64 c.third]:=bx_alloc (Box.new (w.alloc (.cells #[.slice A0 n0 k0,.slice A1 n1 k1,.slice A2 n2 k2] 28)) 32 [.slice C n a,.slice B m b,.int .i64 c.base,.int .i64 c.second,.int .i64 c.third] (by simp)) _
 have X2:Box (((w.alloc (.cells #[.slice A0 n0 k0,.slice A1 n1 k1,.slice A2 n2 k2] 28)).alloc (.cells #[.slice C n a,.slice B m b,.int .i64 c.base,.int .i64 c.second,.int .i64 c.third] 32)).alloc (.cells #[.int .i64 o.st,.int .i64 o.va,.bool o.bk,.bool o.idn] 34)) (w.heap.size+1+1) 34 [.int .i64 o.st,.int .i64 o.va,.bool o.bk,.bool o.idn]:=Box.new ((w.alloc (.cells #[.slice A0 n0 k0,.slice A1 n1 k1,.slice A2 n2 k2] 28)).alloc (.cells #[.slice C n a,.slice B m b,.int .i64 c.base,.int .i64 c.second,.int .i64 c.third] 32)) 34 [.int .i64 o.st,.int .i64 o.va,.bool o.bk,.bool o.idn] (by simp)
 have W0E:∃W0,(((w.alloc (.cells #[.slice A0 n0 k0,.slice A1 n1 k1,.slice A2 n2 k2] 28)).alloc (.cells #[.slice C n a,.slice B m b,.int .i64 c.base,.int .i64 c.second,.int .i64 c.third] 32)).alloc (.cells #[.int .i64 o.st,.int .i64 o.va,.bool o.bk,.bool o.idn] 34))=W0:=⟨_,rfl⟩
 have KC:=Lib.hid (fun W (hb:Below w.heap.size w W) D dk (t:List Int) (hD:Ints W D t) (ht:t.length≤16384) (hio:∀z ∈ t,iok z)=>key_own A0 n0 k0 A1 n1 k1 A2 n2 k2 x C n a B m b c o D t.length dk t W (hN.below hb) hz (hL.below hb) (hC.below hb) hcz hD rfl ht hio)
 have HT:=Lib.hid hT
 have H6:=Lib.hid (fun i (hi:i < l.length)=>h6 _ (List.getElem_mem hi))
 have RS:=Lib.hid (fun i (hi:i < l.length)=>rowsN_set (K:=kyN x c o) hi)
 have KK:=Lib.hid (fun t=>show kyN x c o t=keyN (optD o) (elsN x c t) (dtx x false t) from rfl)
 have mk:=mk_rows l.length (by omega)
 unfold RetOwnI colV at KC
 clear hN hz hL hC hcz hT h6
 generalize kyN x c o=K at *
 go_enter Tryz.func55,Tryz.ntmps55
 go_upto_region 1 with (fail)
 obtain ⟨W0,hW0⟩:=W0E
 try rw [hW0] at B0 X0 X1 X2 ⊢
 clear hW0
 have HX0:=Lib.hid X0
 have HX1:=Lib.hid X1
 have HX2:=Lib.hid X2
 have W1E:∃W1,(W0.alloc (.cells (repV l.length (Value.slice none 0 0)).toArray 37))=W1:=⟨_,rfl⟩
 have R1:=BoxRows.new W0 l.length
 have B1:Below W0.heap.size W0 (W0.alloc (.cells (repV l.length (Value.slice none 0 0)).toArray 37)):=(Below.refl _ _).alloc (Nat.le_refl _) _
 clear X0 X1 X2
 go_upto_region 2 with (fail)
 obtain ⟨W1,hW1⟩:=W1E
 try rw [hW1] at R1 B1 ⊢
 clear hW1 mk
 have HR1:=Lib.hid R1
 have HB1:=Lib.hid B1
 clear R1 B1
 go_wp2_with fail
 go_loopw [17] (fun u wr=>∃(i:Nat),i≤l.length∧u=.int .i64 i∧BoxRows wr W0.heap.size ((l.take i).map K++List.replicate (l.length - i) [])∧Below W0.heap.size W0 wr) (fun u _=>l.length - (intOf u).toNat)
 case atStart=>exact ⟨0,Nat.zero_le _,rfl,by simpa using HR1.out,HB1.out⟩
 obtain ⟨i,hi,rfl,hrw,hbr⟩:=hrel
 have hrs:=hbr.size
 have HRW:=Lib.hid hrw
 have HBR:=Lib.hid hbr
 have hb0:=B0.size
 by_cases hlt:i < l.length
 ·have hbw:=B0.trans (hbr.mono B0.size)
  obtain ⟨b,p,rfl,hbl,hcell⟩:=(HT.out.below hbw).at hlt
  obtain ⟨D,dk,hd,ht⟩:=hcell i hlt
  have KCi:=Lib.hid (KC.out wr hbw D dk l[i] ht.1 (H6.out i hlt) ht.2.2.2)
  rw [←KK.out] at KCi
  have RSi:=Lib.hid (RS.out i hlt)
  clear hcell ht hrw hbr
  have d0:=(HX0.out.below HBR.out HX0.out.lt).cell (i:=0) rfl
  have d1:=(HX0.out.below HBR.out HX0.out.lt).cell (i:=1) rfl
  have d2:=(HX0.out.below HBR.out HX0.out.lt).cell (i:=2) rfl
  have d3:=(HX1.out.below HBR.out HX1.out.lt).cell (i:=0) rfl
  have d4:=(HX1.out.below HBR.out HX1.out.lt).cell (i:=1) rfl
  have d5:=(HX1.out.below HBR.out HX1.out.lt).cell (i:=2) rfl
  have d6:=(HX1.out.below HBR.out HX1.out.lt).cell (i:=3) rfl
  have d7:=(HX1.out.below HBR.out HX1.out.lt).cell (i:=4) rfl
  have d8:=(HX2.out.below HBR.out HX2.out.lt).cell (i:=0) rfl
  have d9:=(HX2.out.below HBR.out HX2.out.lt).cell (i:=1) rfl
  have d10:=(HX2.out.below HBR.out HX2.out.lt).cell (i:=2) rfl
  have d11:=(HX2.out.below HBR.out HX2.out.lt).cell (i:=3) rfl
  generalize l[i]=t at *
  go_wp2_with fail
  with_reducible refine KCi.out.mono ?_
  rintro e w9 ⟨E,k,rfl,ho,hb9⟩
  have hR9:=HRW.out.below hb9
  have hle:=own_le ho
  have hRs:=hR9.set (i:=i) hle (Sl.of_own ho)
  rw [RSi.out] at hRs
  obtain ⟨⟨v9,hv9⟩,hf9⟩:=hR9.cell (i:=i) (by simp;omega)
  have hs9:=hb9.size
  have HB9:=Lib.hid (show Below W0.heap.size W0 (w9.setCell ⟨W0.heap.size,i,none⟩ (.slice E (K t).length k)) from (HBR.out.trans (hb9.mono HBR.out.size)).setCell (by simp) _)
  have HR9:=Lib.hid hRs
  clear hRs hR9 ho hb9 d0 d1 d2 d3 d4 d5 d6 d7 d8 d9 d10 d11 KCi
  go_wp2_with fail
  go_roundw
  case rel=>exact ⟨i+1,by omega,by go_num,HR9.out,HB9.out⟩
  case measure=>simp [intOf];omega
 ·obtain rfl:i=l.length:=by omega
  have hbn:=B0.trans (hbr.mono B0.size)
  rw [List.take_length,Nat.sub_self,List.replicate_zero,List.append_nil] at hrw
  go_wp2_with fail
  go_ret
  exact ⟨W0.heap.size,rfl,B0.size,hrw,hbn⟩
theorem sort1_cmp {Bv g i j:Nat} {ks:List (List Int)} {W:World} (hc:W.cell? ⟨Bv,0,none⟩=some (.slice (some ⟨g,0,none⟩) ks.length ks.length)) (hR:BoxRows W g ks) (hi:i < ks.length) (hj:j < ks.length) (hln:∀u ∈ ks,u.length≤9223372036854775807) :
  Calls Tryz.prog 57 #[.int .i64 i,.int .i64 j,.pointer (some ⟨Bv,0,none⟩)] W (RetInt (cmpL ks[i] ks[j]) W):=by
 obtain ⟨vs,h1,h2,h3⟩:=hR
 obtain ⟨C1,c1,e1,_,i1⟩:=h3 i hi (by omega)
 obtain ⟨C2,c2,e2,_,i2⟩:=h3 j hj (by omega)
 have p1:=h1.cell (i:=i) (v:=.slice C1 ks[i].length c1) (by rw [List.getElem?_eq_getElem (by omega),e1])
 have p2:=h1.cell (i:=j) (v:=.slice C2 ks[j].length c2) (by rw [List.getElem?_eq_getElem (by omega),e2])
 have q1:=hln _ (List.getElem_mem hi)
 have q2:=hln _ (List.getElem_mem hj)
 have hlt1:=World.block_lt_of_cell? W _ hc
 have hlt2:=h1.lt
 have SH:=Lib.hid (fun W' (hb':Below W.heap.size W W')=>show W'.cell? ⟨Bv,0,none⟩=some (.slice (some ⟨g,0,none⟩) ks.length ks.length)∧W'.cell? ⟨g,i,none⟩=some (.slice C1 ks[i].length c1)∧W'.cell? ⟨g,j,none⟩=some (.slice C2 ks[j].length c2)∧Below W.heap.size W W' from ⟨(hb'.cell (p:=⟨Bv,0,none⟩) hlt1).trans hc,(hb'.cell (p:=⟨g,i,none⟩) hlt2).trans p1,(hb'.cell (p:=⟨g,j,none⟩) hlt2).trans p2,hb'⟩)
 have KC:=Lib.hid (fun W' (hb':Below W.heap.size W W')=>cpCompare_any C1 C2 ks[i].length ks[j].length c1 c2 ks[i] ks[j] W' (i1.below hb') (i2.below hb') rfl rfl q1 q2)
 have g1:(i:Int) < (ks.length:Int):=by omega
 have g2:(j:Int) < (ks.length:Int):=by omega
 unfold RetInt
 clear h3 i1 i2 hc h1 p1 p2 e1 e2 hln
 generalize ks[i]=u at *
 generalize ks[j]=v at *
 go_enter Tryz.func57,Tryz.ntmps57
 go_wp2_with fail
 refine wp_region_held_drew (S:=fun W'=>W'.cell? ⟨Bv,0,none⟩=some (.slice (some ⟨g,0,none⟩) ks.length ks.length)∧W'.cell? ⟨g,i,none⟩=some (.slice C1 u.length c1)∧W'.cell? ⟨g,j,none⟩=some (.slice C2 v.length c2)∧Below W.heap.size W W') (by kernel_rfl) (SH.out _ ((Below.refl _ _).drew)) (fun hHeld=>?_)
 refine tK 0 6 ?_
 refine tK 1 7 ?_
 refine tK 2 8 ?_
 refine tK 3 9 ?_
 refine tK 4 10 ?_
 refine tK 5 11 ?_
 refine tK 6 12 ?_
 refine tK 7 13 ?_
 refine qK 8 14 ((KC.out _ (hHeld.2.2.2)).mono (R':=fun e w'=>e=.returned (.int .i64 (cmpL u v))∧_) (fun e w' ⟨he,hq⟩=>⟨he,SH.out w' ((hHeld.2.2.2).trans (hq.below.mono (hHeld.2.2.2).size))⟩)) ?_
 clear hHeld
 intro W7 hHeld
 refine tK 9 5 ?_
 refine wpAnyH_done (by kernel_rfl) ?_ _
 have hfin:=hHeld.2.2.2
 clear hHeld SH KC
 go_wp2_with fail
 go_ret
 exact ⟨rfl,hfin⟩
theorem sort_any (A0:Option Addr) (n0 k0:Nat) (A1:Option Addr) (n1 k1:Nat) (A2:Option Addr) (n2 k2:Nat) (x:Nrm) (C:Option Addr) (n a:Nat) (B:Option Addr) (m b:Nat) (c:Col) (o:Opt) (T:Option Addr) (tk:Nat) (l:List (List Int)) (w:World) (hN:NrmAt w A0 n0 A1 n1 A2 n2 x) (hz:NrmSz x) (hL:Laid w) (hC:ColAt w C n B m c) (hcz:ColSz c) (hT:Txts w T l) (hl:l.length≤19) (h6:∀t ∈ l,t.length≤16384) :
  Calls Tryz.prog 21 #[.agg #[.slice A0 n0 k0,.slice A1 n1 k1,.slice A2 n2 k2],.agg #[.slice C n a,.slice B m b,.int .i64 c.base,.int .i64 c.second,.int .i64 c.third],.agg #[.int .i64 o.st,.int .i64 o.va,.bool o.bk,.bool o.idn],.slice T l.length tk] w fun e w'=>∃A d,e=.returned (.slice A l.length l.length)∧d.length=l.length∧Ints w' A d∧d.Pairwise (OrdI (l.map (kyN x c o)))∧(∀z,z ∈ d ↔ z ∈ rngI l.length)∧Below w.heap.size w w':=by
 have B0:Below w.heap.size w (((w.alloc (.cells #[.slice A0 n0 k0,.slice A1 n1 k1,.slice A2 n2 k2] 28)).alloc (.cells #[.slice C n a,.slice B m b,.int .i64 c.base,.int .i64 c.second,.int .i64 c.third] 32)).alloc (.cells #[.int .i64 o.st,.int .i64 o.va,.bool o.bk,.bool o.idn] 34)):=(by repeat (first | exact Below.refl _ _ | refine Below.alloc ?_ (by (try simp) <;> omega) _))
 have X0:Box (((w.alloc (.cells #[.slice A0 n0 k0,.slice A1 n1 k1,.slice A2 n2 k2] 28)).alloc (.cells #[.slice C n a,.slice B m b,.int .i64 c.base,.int .i64 c.second,.int .i64 c.third] 32)).alloc (.cells #[.int .i64 o.st,.int .i64 o.va,.bool o.bk,.bool o.idn] 34)) (w.heap.size) 28 [.slice A0 n0 k0,.slice A1 n1 k1,.slice A2 n2 k2]:=bx_alloc (bx_alloc (Box.new w 28 [.slice A0 n0 k0,.slice A1 n1 k1,.slice A2 n2 k2] rfl) _) _
 have X1:Box (((w.alloc (.cells #[.slice A0 n0 k0,.slice A1 n1 k1,.slice A2 n2 k2] 28)).alloc (.cells #[.slice C n a,.slice B m b,.int .i64 c.base,.int .i64 c.second,.int .i64 c.third] 32)).alloc (.cells #[.int .i64 o.st,.int .i64 o.va,.bool o.bk,.bool o.idn] 34)) (w.heap.size+1) 32 [.slice C n a,.slice B m b,.int .i64 c.base,.int .i64 c.second,.int .i64 c.third]:=bx_alloc (Box.new (w.alloc (.cells #[.slice A0 n0 k0,.slice A1 n1 k1,.slice A2 n2 k2] 28)) 32 [.slice C n a,.slice B m b,.int .i64 c.base,.int .i64 c.second,.int .i64 c.third] (by simp)) _
 have X2:Box (((w.alloc (.cells #[.slice A0 n0 k0,.slice A1 n1 k1,.slice A2 n2 k2] 28)).alloc (.cells #[.slice C n a,.slice B m b,.int .i64 c.base,.int .i64 c.second,.int .i64 c.third] 32)).alloc (.cells #[.int .i64 o.st,.int .i64 o.va,.bool o.bk,.bool o.idn] 34)) (w.heap.size+1+1) 34 [.int .i64 o.st,.int .i64 o.va,.bool o.bk,.bool o.idn]:=Box.new ((w.alloc (.cells #[.slice A0 n0 k0,.slice A1 n1 k1,.slice A2 n2 k2] 28)).alloc (.cells #[.slice C n a,.slice B m b,.int .i64 c.base,.int .i64 c.second,.int .i64 c.third] 32)) 34 [.int .i64 o.st,.int .i64 o.va,.bool o.bk,.bool o.idn] (by simp)
 have W0E:∃W0,(((w.alloc (.cells #[.slice A0 n0 k0,.slice A1 n1 k1,.slice A2 n2 k2] 28)).alloc (.cells #[.slice C n a,.slice B m b,.int .i64 c.base,.int .i64 c.second,.int .i64 c.third] 32)).alloc (.cells #[.int .i64 o.st,.int .i64 o.va,.bool o.bk,.bool o.idn] 34))=W0:=⟨_,rfl⟩
 have KC:=Lib.hid (fun W (hb:Below w.heap.size w W)=>keys_any A0 n0 k0 A1 n1 k1 A2 n2 k2 x C n a B m b c o T tk l W (hN.below hb) hz (hL.below hb) (hC.below hb) hcz (hT.below hb) hl h6)
 have KLN:=Lib.hid (fun u (hu:u ∈ l.map (kyN x c o))=>show u.length≤9223372036854775807 from by
  obtain ⟨t,ht,rfl⟩:=List.mem_map.1 hu
  exact keyN_len o x c t (h6 t ht))
 have KSL:=Lib.hid (show (l.map (kyN x c o)).length=l.length from by simp)
 have mk:=mk_ints l.length (by omega)
 unfold colV at *
 clear hN hz hL hC hcz hT h6
 generalize l.map (kyN x c o)=ks at *
 generalize l.length=N at *
 go_enter Tryz.func21,Tryz.ntmps21
 go_upto_region 1 with (fail)
 obtain ⟨W0,hW0⟩:=W0E
 try rw [hW0] at B0 X0 X1 X2 ⊢
 clear hW0
 have d0:=X0.cell (i:=0) rfl
 have d1:=X0.cell (i:=1) rfl
 have d2:=X0.cell (i:=2) rfl
 have d3:=X1.cell (i:=0) rfl
 have d4:=X1.cell (i:=1) rfl
 have d5:=X1.cell (i:=2) rfl
 have d6:=X1.cell (i:=3) rfl
 have d7:=X1.cell (i:=4) rfl
 have d8:=X2.cell (i:=0) rfl
 have d9:=X2.cell (i:=1) rfl
 have d10:=X2.cell (i:=2) rfl
 have d11:=X2.cell (i:=3) rfl
 have KCi:=Lib.hid (KC.out W0 B0)
 clear KC X0 X1 X2
 go_wp2_with fail
 with_reducible refine KCi.out.mono ?_
 rintro e W1 ⟨g,rfl,hg,hrw,hb1⟩
 have B1:=B0.trans (hb1.mono B0.size)
 clear KCi d0 d1 d2 d3 d4 d5 d6 d7 d8 d9 d10 d11 hb1
 have hg2:=hrw.lt
 have B2:Below W1.heap.size W1 (W1.alloc (.cells #[.slice (some ⟨g,0,none⟩) N N] 46)):=(Below.refl _ _).alloc (Nat.le_refl _) _
 have X2:Box (W1.alloc (.cells #[.slice (some ⟨g,0,none⟩) N N] 46)) W1.heap.size 46 [.slice (some ⟨g,0,none⟩) N N]:=Box.new _ _ _ rfl
 have W2E:∃W2,(W1.alloc (.cells #[.slice (some ⟨g,0,none⟩) N N] 46))=W2:=⟨_,rfl⟩
 go_upto_region 2 with (fail)
 obtain ⟨W2,hW2⟩:=W2E
 try rw [hW2] at B2 X2 ⊢
 clear hW2
 have R2:=hrw.below B2
 have B02:=B1.trans (B2.mono B1.size)
 have lx2:=X2.lt
 have lr2:=R2.lt
 clear hrw
 have B3:Below W2.heap.size W2 (W2.alloc (.cells (repV N (Value.int .i64 0)).toArray 3)):=(Below.refl _ _).alloc (Nat.le_refl _) _
 have X3:Box (W2.alloc (.cells (repV N (Value.int .i64 0)).toArray 3)) W2.heap.size 3 (repV N (Value.int .i64 0)):=Box.new _ _ _ rfl
 have W3E:∃W3,(W2.alloc (.cells (repV N (Value.int .i64 0)).toArray 3))=W3:=⟨_,rfl⟩
 go_upto_region 3 with (fail)
 obtain ⟨W3,hW3⟩:=W3E
 try rw [hW3] at B3 X3 ⊢
 clear hW3 mk
 have HX3:=Lib.hid (show Box W3 W2.heap.size 3 ((rngI 0++List.replicate (N - 0) 0).map (Value.int .i64)) from by
  have e:(rngI 0++List.replicate (N - 0) 0).map (Value.int .i64)=repV N (Value.int .i64 0):=by simp [rngI,repV]
  rw [e];exact X3)
 have HB3:=Lib.hid B3
 have HR2:=Lib.hid R2
 have HX2:=Lib.hid X2
 have FSq:=Lib.hid (fun i (hi:i < N)=>fill_set hi)
 clear X3 B3 R2 X2 B2
 go_wp2_with fail
 go_loopw [22] (fun u wr=>∃(i:Nat),i≤N∧u=.int .i64 i∧Box wr W2.heap.size 3 ((rngI i++List.replicate (N - i) 0).map (Value.int .i64))∧Below W2.heap.size W2 wr) (fun u _=>N - (intOf u).toNat)
 case atStart=>exact ⟨0,Nat.zero_le _,rfl,HX3.out,HB3.out⟩
 obtain ⟨i,hi,rfl,hbx,hbr⟩:=hrel
 have hrs:=hbr.size
 have HBX:=Lib.hid hbx
 have HBR:=Lib.hid hbr
 by_cases hlt:i < N
 ·have gl:i < (rngI i++List.replicate (N - i) (0:Int)).length:=by simp [rngI];omega
  have c0:=hbx.cell (i:=i) (v:=.int .i64 ((rngI i++List.replicate (N - i) (0:Int))[i])) (by rw [List.getElem?_map,List.getElem?_eq_getElem gl];rfl)
  have f0:=hbx.free i
  have HN:=Lib.hid (hbx.set i (.int .i64 i))
  have HBN:=Lib.hid (hbr.setCell (p:=⟨W2.heap.size,i,none⟩) (by simp) (.int .i64 i))
  clear hbx hbr
  go_wp2_with fail
  go_roundw
  case rel=>exact ⟨i+1,by omega,by go_num,by
   have:=HN.out
   rw [←List.map_set,FSq.out i hlt] at this
   exact this,HBN.out⟩
  case measure=>simp [intOf];omega
 ·obtain rfl:i=N:=by omega
  rw [Nat.sub_self,List.replicate_zero,List.append_nil] at HBX
  have hrow:Row wr W2.heap.size 0 3 [] [] (rngI i):=⟨rfl,by
   have h:=HBX.out
   unfold Box at h
   unfold Blk
   rw [List.nil_append,List.append_nil]
   exact h⟩
  have hcm:Cmpd (fun z=>z ∈ rngI i) W2.heap.size W1.heap.size wr (rkI ks):=by
   intro W hg x y hx hy
   have kx:=rngI_mem hx
   have ky:=rngI_mem hy
   obtain ⟨a,rfl⟩:∃a:Nat,x=a:=⟨x.toNat,by omega⟩
   obtain ⟨b,rfl⟩:∃b:Nat,y=b:=⟨y.toNat,by omega⟩
   have hks:=KSL.out
   have hcells:∀p:Addr,p.block < W2.heap.size→W.heap[p.block]?=W2.heap[p.block]?:=fun p hp=>(hg.block p.block (by omega) (fun e=>by injection e with e;omega)).trans (HBR.out.block p.block hp)
   have hW:Below W2.heap.size W2 W:=⟨hg.os.trans HBR.out.os,hg.tape.trans HBR.out.tape,hg.output.trans HBR.out.output,Nat.le_trans HBR.out.size hg.size,fun k hk=>(hg.block k (by omega) (fun e=>by injection e with e;omega)).trans (HBR.out.block k hk)⟩
   have hcB:=(HX2.out.below hW lx2).cell (i:=0) rfl
   rw [←hks] at hcB
   refine (sort1_cmp (i:=a) (j:=b) hcB (HR2.out.below hW) (by omega) (by omega) KLN.out).mono ?_
   rintro e w' ⟨he,hb⟩
   refine ⟨_,he,?_,hb⟩
   have ga:a < ks.length:=by omega
   have gb:b < ks.length:=by omega
   have h:=rk_lt (ks:=ks) (u:=ks[a]) (v:=ks[b]) (List.getElem_mem ga)
   unfold rkI
   rw [Int.toNat_natCast,Int.toNat_natCast,getD_lt ga,getD_lt gb]
   exact h
  have KS:=Lib.hid (sortC_any W2.heap.size W1.heap.size 0 i i 3 (rkI ks) (rngI i) [] [] wr hrow (by simp [rngI]) (by omega) hcm (fun z hz=>hz))
  have KO:=Lib.hid (fun d' (h:Srt.Done (rkI ks) (rngI i) d' 0 i)=>done_ord KSL.out h)
  clear hrow hcm hbx hbr
  go_wp2_with fail
  with_reducible refine KS.out.mono ?_
  rintro e w4 ⟨rfl,d',hD,hR4,hg4⟩
  have h4:=KO.out d' hD
  have hI:Ints w4 (some ⟨W2.heap.size,0,none⟩) d':=fun hne=>by
   refine ⟨_,_,rfl,fun j u hu=>?_⟩
   have hm:=List.mem_of_getElem? hu
   have hq:d'[j]?=some (match u with | .int _ z=>z | _=>0):=by
    rw [List.getElem?_map] at hu
    cases hd:d'[j]? with
    | none=>rw [hd] at hu;cases hu
    | some z=>rw [hd] at hu;injection hu with hu;subst hu;rfl
   have:=hR4.cell hq
   obtain ⟨z,_,rfl⟩:=List.mem_map.1 hm
   exact this
  have hbn:Below w.heap.size w w4:=(B02.trans (HBR.out.mono B02.size)).grown hg4 (by have:=HBR.out.size;have:=B02.size;omega) (fun k e=>by injection e with e;have:=B02.size;omega)
  clear KS KO
  go_wp2_with fail
  go_ret
  exact ⟨_,d',rfl,h4.2.2,hI,h4.1,h4.2.1,hbn⟩
end Go.Proofs.YtijgbonhjcblcaaGreatDoor
namespace Go.Proofs.YtijgbonhjcblcaaGreatDoor
open Go.RowKit Go.Maps Go.WideMaps
def smallC (c:Col):Bool:=decide (c.ents.length≤12)&&decide (c.grps.length≤8)&&c.ents.all (fun x=>decide (x.codes.length≤10)&&decide (x.elems.length≤20))
theorem small_sz {c:Col} (h:smallC c=true):ColSz c∧c.grps.length≤8∧c.ents.length≤12∧∀x ∈ c.ents,x.codes.length≤10∧x.elems.length≤20:=by
 unfold smallC at h
 simp only [Bool.and_eq_true,decide_eq_true_eq,List.all_eq_true] at h
 obtain ⟨⟨h1,h2⟩,h3⟩:=h
 refine ⟨⟨fun i hi=>?_,by omega,by omega⟩,h2,h1,h3⟩
 have:=h3 _ (List.getElem_mem hi)
 omega
section
variable {c:Col}
theorem small1 (h:¬c.ents.length≤12):smallC c=false:=by simp [smallC];omega
theorem small2 (h:¬c.grps.length≤8):smallC c=false:=by simp [smallC];omega
theorem small3 {k:Nat} (hk:k < c.ents.length) (h:¬(c.ents[k].codes.length≤10∧c.ents[k].elems.length≤20)):smallC c=false:=by
 cases hs:smallC c with
 | false=>rfl
 | true=>exact absurd ((small_sz hs).2.2.2 _ (List.getElem_mem hk)) h
theorem small4 (h1:c.ents.length≤12) (h2:c.grps.length≤8) (h:∀t,(ht:t < c.ents.length)→c.ents[t].codes.length≤10∧c.ents[t].elems.length≤20):smallC c=true:=by
 unfold smallC
 simp only [Bool.and_eq_true,decide_eq_true_eq,List.all_eq_true]
 refine ⟨⟨h1,h2⟩,fun x hx=>?_⟩
 obtain ⟨t,ht,rfl⟩:=List.getElem_of_mem hx
 exact h t ht
end
theorem small43_any (A:Option Addr) (n a:Nat) (B:Option Addr) (m b:Nat) (c:Col) (w:World) (h:ColAt w A n B m c) :
  Calls Tryz.prog 23 #[colV A n a B m b c] w fun e w'=>e=.returned (.bool (smallC c))∧Below w.heap.size w w':=by
 have B0:Below w.heap.size w (w.alloc (.cells #[.slice A n a,.slice B m b,.int .i64 c.base,.int .i64 c.second,.int .i64 c.third] 32)):=(Below.refl _ _).alloc (Nat.le_refl _) _
 have k0:(w.alloc (.cells #[.slice A n a,.slice B m b,.int .i64 c.base,.int .i64 c.second,.int .i64 c.third] 32)).cell? ⟨w.heap.size,0,none⟩=some (.slice A n a):=by simp
 have k1:(w.alloc (.cells #[.slice A n a,.slice B m b,.int .i64 c.base,.int .i64 c.second,.int .i64 c.third] 32)).cell? ⟨w.heap.size,1,none⟩=some (.slice B m b):=by simp
 have W0E:∃W0,w.alloc (.cells #[.slice A n a,.slice B m b,.int .i64 c.base,.int .i64 c.second,.int .i64 c.third] 32)=W0:=⟨_,rfl⟩
 have S1:=Lib.hid (small1 (c:=c));have S2:=Lib.hid (small2 (c:=c));have S3:=Lib.hid (fun k=>small3 (c:=c) (k:=k));have S4:=Lib.hid (small4 (c:=c))
 have HE:=Lib.hid h.ents
 have hn:=h.hn
 have hm:=h.hm
 unfold colV
 generalize smallC c=r at *
 generalize c.base=cb at *
 generalize c.second=cs at *
 generalize c.third=ct at *
 generalize c.ents=es at *
 generalize c.grps=gs at *
 subst hn
 subst hm
 clear h
 go_enter Tryz.func23,Tryz.ntmps23
 by_cases h1:es.length≤12
 ·have q1:decide ((12:Int) < (es.length:Int))=false:=by simp;omega
  by_cases h2:gs.length≤8
  ·have q2:decide ((8:Int) < (gs.length:Int))=false:=by simp;omega
   clear S1 S2
   go_wp2_with fail
   obtain ⟨W0,hW0⟩:=W0E
   rw [hW0] at B0 k0 k1 ⊢
   clear hW0 k1
   have HE0:=Lib.hid (HE.out.below B0)
   go_loopw [3] (fun u wr=>∃i:Nat,i≤es.length∧u=.int .i64 i∧(∀t,(ht:t < es.length)→t < i→es[t].codes.length≤10∧es[t].elems.length≤20)∧wr=W0) (fun u _=>es.length - (intOf u).toNat)
   case atStart=>exact ⟨0,Nat.zero_le _,rfl,fun t _ h=>by omega,rfl⟩
   case round=>
    obtain ⟨i,hi,rfl,hne,rfl⟩:=hrel
    have HNE:=Lib.hid hne;clear hne
    by_cases hlt:i < es.length
    ·obtain ⟨b1,o1,rfl,hbl,hcell⟩:=HE0.out.at hlt
     obtain ⟨C,c',E,d,c1,c2,_,_⟩:=hcell i hlt
     have HN:=Lib.hid (fun h=>all_up (P:=fun x=>x.codes.length≤10∧x.elems.length≤20) hlt HNE.out h)
     have HY:=Lib.hid (fun h=>S3.out i hlt h)
     clear hcell S3 S4
     generalize es[i]=ei at *
     obtain ⟨ec,ee⟩:=ei
     dsimp only at *
     by_cases h3:ec.length≤10
     ·have q3:decide ((10:Int) < (ec.length:Int))=false:=by simp;omega
      by_cases h4:ee.length≤20
      ·have q4:decide ((20:Int) < (ee.length:Int))=false:=by simp;omega
       have HQ:=Lib.hid (HN.out ⟨h3,h4⟩)
       clear HN HY
       go_wp2_with fail
       go_roundw
       case rel=>exact ⟨i+1,by omega,by go_num,HQ.out,trivial⟩
       case measure=>simp [intOf];omega
      ·have q4:decide ((20:Int) < (ee.length:Int))=true:=by simp;omega
       obtain rfl:=HY.out (fun h=>h4 h.2)
       clear HN HY
       go_wp2_with fail
       go_ret
       exact ⟨rfl,B0⟩
     ·have q3:decide ((10:Int) < (ec.length:Int))=true:=by simp;omega
      obtain rfl:=HY.out (fun h=>h3 h.1)
      clear HN HY
      go_wp2_with fail
      go_ret
      exact ⟨rfl,B0⟩
    ·obtain rfl:=S4.out h1 h2 (fun t ht=>HNE.out t ht (by omega))
     go_wp2_with fail
     go_ret
     exact ⟨rfl,B0⟩
  ·have q2:decide ((8:Int) < (gs.length:Int))=true:=by simp;omega
   obtain rfl:=S2.out h2
   clear S1 S2 S3 S4
   go_wp2_with fail
   go_ret
   exact ⟨rfl,B0⟩
 ·have q1:decide ((12:Int) < (es.length:Int))=true:=by simp;omega
  obtain rfl:=S1.out h1
  clear S1 S2 S3 S4
  go_wp2_with fail
  go_ret
  exact ⟨rfl,B0⟩
end Go.Proofs.YtijgbonhjcblcaaGreatDoor
namespace Go.Proofs.YtijgbonhjcblcaaGreatDoor
open Go.RowKit Go.Maps Go.WideMaps
def smallS (x:Nrm):Bool:=decide (x.cls.length≤16)&&smallM x.dec&&decide (x.exc.length≤12)
theorem smallS_sz {x:Nrm} (h:smallS x=true):NrmSz x:=by
 unfold smallS at h
 simp only [Bool.and_eq_true,decide_eq_true_eq] at h
 obtain ⟨⟨h1,h2⟩,h3⟩:=h
 exact ⟨by omega,(smallM_sz h2).1,h3⟩
theorem few01_any (A:Option Addr) (n k:Nat) (m:Int) (w:World):Calls Tryz.prog 6 #[.slice A n k,.int .i64 m] w fun e w'=>e=.returned (.bool (decide ((n:Int)≤m)))∧w=w':=by
 go_enter Tryz.func6,Tryz.ntmps6
 go_wp2_with fail
 go_ret
 exact ⟨rfl,rfl⟩
theorem small21_any (A0:Option Addr) (k0:Nat) (A1:Option Addr) (k1:Nat) (A2:Option Addr) (k2:Nat) (x:Nrm) (w:World) (hN:NrmAt w A0 x.cls.length A1 x.dec.length A2 x.exc.length x) (hl:NrmLn x) :
  Calls Tryz.prog 22 #[.agg #[.slice A0 x.cls.length k0,.slice A1 x.dec.length k1,.slice A2 x.exc.length k2]] w (RetBool (smallS x) w):=by
 have B0:Below w.heap.size w (w.alloc (.cells #[.slice A0 x.cls.length k0,.slice A1 x.dec.length k1,.slice A2 x.exc.length k2] 28)):=(Below.refl _ _).alloc (Nat.le_refl _) _
 have X0:Box (w.alloc (.cells #[.slice A0 x.cls.length k0,.slice A1 x.dec.length k1,.slice A2 x.exc.length k2] 28)) w.heap.size 28 [.slice A0 x.cls.length k0,.slice A1 x.dec.length k1,.slice A2 x.exc.length k2]:=Box.new _ _ _ rfl
 have W0E:∃W0,(w.alloc (.cells #[.slice A0 x.cls.length k0,.slice A1 x.dec.length k1,.slice A2 x.exc.length k2] 28))=W0:=⟨_,rfl⟩
 have K1:=Lib.hid (fun W=>Small_any A0 x.cls.length k0 W)
 have K2:=Lib.hid (fun W (hb:Below w.heap.size w W)=>smallM_any A1 x.dec.length k1 x.dec W (hN.s1.below hb) rfl hl.z1 hl.ze)
 have K3:=Lib.hid (fun W=>refSmallS_any A2 x.exc.length k2 W hl.z2)
 have EQ:=Lib.hid (show smallS x=(decide (x.cls.length≤16)&&smallM x.dec&&decide (x.exc.length≤12)) from rfl)
 generalize smallS x=r at *
 generalize smallM x.dec=sm at *
 generalize decide (x.cls.length≤16)=sc at *
 generalize decide (x.exc.length≤12)=se at *
 clear hN hl
 go_enter Tryz.func22,Tryz.ntmps22
 go_wp2_with fail
 obtain ⟨W0,hW0⟩:=W0E
 try rw [hW0] at B0 X0 ⊢
 clear hW0
 have d0:=X0.cell (i:=0) rfl
 have d1:=X0.cell (i:=1) rfl
 have d2:=X0.cell (i:=2) rfl
 with_reducible refine (K1.out _).mono ?_
 rintro e W1 ⟨rfl,rfl⟩
 cases sc with
 | false=>
  go_wp2_with fail
  go_ret
  exact ⟨ret_bool (by rw [EQ.out];rfl),B0⟩
 | true=>
  go_wp2_with fail
  with_reducible refine (K2.out _ B0).mono ?_
  rintro e W1 ⟨rfl,rfl⟩
  cases sm with
  | false=>
   go_wp2_with fail
   go_ret
   exact ⟨ret_bool (by rw [EQ.out];rfl),B0⟩
  | true=>
   go_wp2_with fail
   with_reducible refine (K3.out _).mono ?_
   rintro e W3 ⟨rfl,hb3⟩
   go_wp2_with fail
   go_ret
   exact ⟨ret_bool (by rw [EQ.out];cases se <;> rfl),B0.trans (hb3.mono B0.size)⟩
theorem rkCheck_any (o:Opt) (w:World):Calls Tryz.prog 16 #[.agg #[.int .i64 o.st,.int .i64 o.va,.bool o.bk,.bool o.idn]] w (fun e w'=>e=.returned (.int .i64 (optErr o))∧Below w.heap.size w w'):=by
 obtain ⟨st,va,bk,idn⟩:=o
 have HE:=Lib.hid (show optErr ⟨st,va,bk,idn⟩=if st < 1∨4 < st then 1 else if va=1∨va=2∨va=3 then 0 else 8 from rfl)
 generalize optErr ⟨st,va,bk,idn⟩=r at *
 have B0:Below w.heap.size w (w.alloc (.cells #[.int .i64 st,.int .i64 va,.bool bk,.bool idn] 34)):=(Below.refl _ _).alloc (Nat.le_refl _) _
 dsimp only
 go_enter Tryz.func16,Tryz.ntmps16
 by_cases h1:st < 1
 ·have d1:decide (st < 1)=true:=by simpa using h1
  obtain rfl:r=1:=by rw [HE.out,if_pos (.inl h1)]
  clear HE
  go_wp2_with fail
  go_ret
  exact ⟨rfl,B0⟩
 ·have d1:decide (st < 1)=false:=by simpa using h1
  by_cases h2:4 < st
  ·have d2:decide (4 < st)=true:=by simpa using h2
   obtain rfl:r=1:=by rw [HE.out,if_pos (.inr h2)]
   clear HE
   go_wp2_with fail
   go_ret
   exact ⟨rfl,B0⟩
  ·have d2:decide (4 < st)=false:=by simpa using h2
   have HF:=Lib.hid (show r=if va=1∨va=2∨va=3 then 0 else 8 from by rw [HE.out,if_neg (by omega)])
   clear HE
   by_cases h3:va < 1
   ·have d3:decide (va < 1)=true:=by simpa using h3
    obtain rfl:r=8:=by rw [HF.out,if_neg (by omega)]
    clear HF
    go_wp2_with fail
    go_ret
    exact ⟨rfl,B0⟩
   ·have d3:decide (va < 1)=false:=by simpa using h3
    by_cases h4:3 < va
    ·have d4:decide (3 < va)=true:=by simpa using h4
     obtain rfl:r=8:=by rw [HF.out,if_neg (by omega)]
     clear HF
     go_wp2_with fail
     go_ret
     exact ⟨rfl,B0⟩
    ·have d4:decide (3 < va)=false:=by simpa using h4
     obtain rfl:r=0:=by rw [HF.out,if_pos (by omega)]
     clear HF
     go_wp2_with fail
     go_ret
     exact ⟨rfl,B0⟩
theorem small_any (V:SetV) (x:Nrm) (c:Col) (o:Opt) (w:World) (hS:SetAt w V x c) :
  Calls Tryz.prog 5 #[.agg #[.slice V.A0 x.cls.length V.k0,.slice V.A1 x.dec.length V.k1,.slice V.A2 x.exc.length V.k2,.slice V.C c.ents.length V.a,.slice V.B c.grps.length V.b,.int .i64 c.base,.int .i64 c.second,.int .i64 c.third,.int .i64 o.st,.int .i64 o.va,.bool o.bk,.bool o.idn]] w (RetBool (smallS x&&smallC c) w):=by
 have B0:Below w.heap.size w (w.alloc (.cells #[.slice V.A0 x.cls.length V.k0,.slice V.A1 x.dec.length V.k1,.slice V.A2 x.exc.length V.k2,.slice V.C c.ents.length V.a,.slice V.B c.grps.length V.b,.int .i64 c.base,.int .i64 c.second,.int .i64 c.third,.int .i64 o.st,.int .i64 o.va,.bool o.bk,.bool o.idn] 36)):=(Below.refl _ _).alloc (Nat.le_refl _) _
 have X0:Box (w.alloc (.cells #[.slice V.A0 x.cls.length V.k0,.slice V.A1 x.dec.length V.k1,.slice V.A2 x.exc.length V.k2,.slice V.C c.ents.length V.a,.slice V.B c.grps.length V.b,.int .i64 c.base,.int .i64 c.second,.int .i64 c.third,.int .i64 o.st,.int .i64 o.va,.bool o.bk,.bool o.idn] 36)) w.heap.size 36 [.slice V.A0 x.cls.length V.k0,.slice V.A1 x.dec.length V.k1,.slice V.A2 x.exc.length V.k2,.slice V.C c.ents.length V.a,.slice V.B c.grps.length V.b,.int .i64 c.base,.int .i64 c.second,.int .i64 c.third,.int .i64 o.st,.int .i64 o.va,.bool o.bk,.bool o.idn]:=Box.new _ _ _ rfl
 have W0E:∃W0,(w.alloc (.cells #[.slice V.A0 x.cls.length V.k0,.slice V.A1 x.dec.length V.k1,.slice V.A2 x.exc.length V.k2,.slice V.C c.ents.length V.a,.slice V.B c.grps.length V.b,.int .i64 c.base,.int .i64 c.second,.int .i64 c.third,.int .i64 o.st,.int .i64 o.va,.bool o.bk,.bool o.idn] 36))=W0:=⟨_,rfl⟩
 have K1:=Lib.hid (fun W (hb:Below w.heap.size w W)=>small21_any V.A0 V.k0 V.A1 V.k1 V.A2 V.k2 x W (hS.nrm.below hb) hS.ln)
 have K2:=Lib.hid (fun W (hb:Below w.heap.size w W)=>small43_any V.C c.ents.length V.a V.B c.grps.length V.b c W (hS.col.below hb))
 unfold colV at K2
 unfold RetBool at K1 ⊢
 generalize smallS x=sx at *
 generalize smallC c=sc at *
 clear hS
 go_enter Tryz.func5,Tryz.ntmps5
 go_upto_region 1 with (fail)
 obtain ⟨W0,hW0⟩:=W0E
 try rw [hW0] at B0 X0 ⊢
 clear hW0
 have d0:=X0.cell (i:=0) rfl
 have d1:=X0.cell (i:=1) rfl
 have d2:=X0.cell (i:=2) rfl
 have d3:=X0.cell (i:=3) rfl
 have d4:=X0.cell (i:=4) rfl
 have d5:=X0.cell (i:=5) rfl
 have d6:=X0.cell (i:=6) rfl
 have d7:=X0.cell (i:=7) rfl
 have d8:=X0.cell (i:=8) rfl
 have d9:=X0.cell (i:=9) rfl
 have d10:=X0.cell (i:=10) rfl
 have d11:=X0.cell (i:=11) rfl
 go_wp2_with fail
 with_reducible refine (K1.out W0 B0).mono ?_
 rintro e W1 ⟨rfl,hb1⟩
 have B1:=B0.trans (hb1.mono B0.size)
 clear K1 d0 d1 d2 d3 d4 d5 d6 d7 d8 d9 d10 d11
 have X1:=X0.below hb1 X0.lt
 have e0:=X1.cell (i:=0) rfl
 have e1:=X1.cell (i:=1) rfl
 have e2:=X1.cell (i:=2) rfl
 have e3:=X1.cell (i:=3) rfl
 have e4:=X1.cell (i:=4) rfl
 have e5:=X1.cell (i:=5) rfl
 have e6:=X1.cell (i:=6) rfl
 have e7:=X1.cell (i:=7) rfl
 have e8:=X1.cell (i:=8) rfl
 have e9:=X1.cell (i:=9) rfl
 have e10:=X1.cell (i:=10) rfl
 have e11:=X1.cell (i:=11) rfl
 cases sx with
 | false=>
  go_wp2_with fail
  go_ret
  exact ⟨rfl,B1⟩
 | true=>
  go_wp2_with fail
  with_reducible refine (K2.out W1 B1).mono ?_
  rintro e W2 ⟨rfl,hb2⟩
  have B2:=B1.trans (hb2.mono B1.size)
  go_wp2_with fail
  go_ret
  exact ⟨ret_bool (by simp),B2⟩
end Go.Proofs.YtijgbonhjcblcaaGreatDoor
