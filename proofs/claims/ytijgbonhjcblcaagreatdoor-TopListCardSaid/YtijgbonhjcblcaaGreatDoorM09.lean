/- Texts that are merged into one file: SetC, SetD. -/
import Derived.Test.YtijgbonhjcblcaaGreatDoorM08
import Derived.Deep.RegionLaw
import Derived.Laws.OwnMore
import Derived.Laws.StructEq
set_option maxRecDepth 100000
set_option maxHeartbeats 51200000
namespace Go.Proofs.YtijgbonhjcblcaaGreatDoor
open Go.RowKit Go.Maps Go.WideMaps
def RetIs (l:List Int) (w:World) (e:Ending) (w':World):Prop:=∃E d,e=.returned (.slice E l.length d)∧l.length≤d∧Ints w' E l∧Below w.heap.size w w'
theorem RetOwnI.is {l:List Int} {w:World} {e:Ending} {w':World} (h:RetOwnI l w e w'):RetIs l w e w':=by
 obtain ⟨A,c,h1,h2,h3⟩:=h
 obtain ⟨_,_,hv,hc⟩:=own_form h2
 injection hv with _ _ hv
 subst hv
 exact ⟨A,c,h1,hc,Sl.of_own h2,h3⟩
theorem cut1_len (l:List Int) (r:Rg):(cut1 l r).length≤l.length+2:=by
 unfold cut1
 dsimp only
 have h1:(if inR 0 1114111 r.lo=true then placeL l r.lo else l).length≤l.length+1:=by
  split
  ·exact placeL_len _ _
  ·omega
 split
 ·have:=placeL_len (if inR 0 1114111 r.lo=true then placeL l r.lo else l) (r.hi+1);omega
 ·omega
theorem fold_len (rs:List Rg) (l:List Int):(rs.foldl cut1 l).length≤l.length+2*rs.length:=by
 induction rs generalizing l with
 | nil=>simp
 | cons r rs ih=>
  have:=ih (cut1 l r)
  have:=cut1_len l r
  simp only [List.foldl_cons,List.length_cons]
  omega
theorem cuts_len (rs:List Rg) (l:List Int):(cutsL l rs).length≤l.length+2*rs.length+1:=by
 unfold cutsL
 have:=placeL_len (rs.foldl cut1 l) 0
 have:=fold_len rs l
 omega
theorem Cuts_any (A:Option Addr) (m a:Nat) (l:List Int) (B:Option Addr) (n b:Nat) (rs:List Rg) (w:World) (hA:Ints w A l) (hm:l.length=m) (hB:Rgs w B rs) (hn:rs.length=n) (hmz:m≤100000) (hnz:n≤100000) :
  Calls Tryz.prog 154 #[.slice A m a,.agg #[.slice B n b]] w (RetIs (cutsL l rs) w):=by
 subst hm
 subst hn
 have B0:Below w.heap.size w (w.alloc (.cells #[.slice B rs.length b] 26)):=(Below.refl _ _).alloc (Nat.le_refl _) _
 have k0:(w.alloc (.cells #[.slice B rs.length b] 26)).cell? ⟨w.heap.size,0,none⟩=some (.slice B rs.length b):=by simp
 have s0:(w.alloc (.cells #[.slice B rs.length b] 26)).heap.size=w.heap.size+1:=by simp
 have W0E:∃W0,(w.alloc (.cells #[.slice B rs.length b] 26))=W0:=⟨_,rfl⟩
 have HA:=Lib.hid hA
 have HB:=Lib.hid hB
 have ER:=Lib.hid (show cutsL l rs=placeL (rs.foldl cut1 l) 0 from rfl)
 clear hA hB
 generalize cutsL l rs=R at *
 go_enter Tryz.func154,Tryz.ntmps154
 go_wp2_with fail
 obtain ⟨W0,hW0⟩:=W0E
 rw [hW0] at B0 k0 s0 ⊢
 clear hW0
 have hx0:w.heap.size < W0.heap.size:=by omega
 have HA0:=Lib.hid (HA.out.below B0)
 clear HA
 go_loopw [0,5] (fun v u wr=>∃(i:Nat) (S:Option Addr) (c:Nat),i≤rs.length∧u=.int .i64 i∧v=.slice S ((rs.take i).foldl cut1 l).length c∧Ints wr S ((rs.take i).foldl cut1 l)∧Below W0.heap.size W0 wr) (fun _ u _=>rs.length - (intOf u).toNat)
 case atStart=>exact ⟨0,A,a,Nat.zero_le _,rfl,rfl,HA0.out,Below.refl _ _⟩
 case round=>
  obtain ⟨i,S,c,hi,rfl,rfl,hS,hbr⟩:=hrel
  have HS:=Lib.hid hS
  clear hS HA0
  have f0:=(hbr.cell (p:=⟨w.heap.size,0,none⟩) hx0).trans k0
  have hbw:=B0.trans (hbr.mono B0.size)
  have hx1:w.heap.size < wr.heap.size:=by have:=hbr.size;omega
  by_cases hlt:i < rs.length
  ·obtain ⟨b1,o1,rfl,hbl,hcell⟩:=(HB.out.below hbw).at hlt
   obtain ⟨c1,c2⟩:=hcell i hlt
   have HT:=Lib.hid (cut_take (l:=l) hlt)
   have hfl:=fold_len (rs.take i) l
   have hfl2:(rs.take i).length≤i:=List.length_take_le _ _
   have PC:=Lib.hid (fun (A':Option Addr) (a':Nat) (l':List Int) (x:Int) W (hA':Ints W A' l') (hz:l'.length≤1048576)=>(place_any A' l'.length a' l' x W hA' rfl hz).mono (R':=RetIs (placeL l' x) W) (fun _ _ h=>h.is))
   have HC1:=Lib.hid (show cut1 ((rs.take i).foldl cut1 l) rs[i]=if 0≤rs[i].hi∧rs[i].hi < 1114111 then placeL (if inR 0 1114111 rs[i].lo=true then placeL ((rs.take i).foldl cut1 l) rs[i].lo else (rs.take i).foldl cut1 l) (rs[i].hi+1) else (if inR 0 1114111 rs[i].lo=true then placeL ((rs.take i).foldl cut1 l) rs[i].lo else (rs.take i).foldl cut1 l) from rfl)
   clear hcell
   generalize (rs.take i).foldl cut1 l=F at *
   generalize rs[i]=ri at *
   obtain ⟨rlo,rhi⟩:=ri
   dsimp only at *
   have hfz:F.length≤1048000:=by omega
   have hpz:∀x,(placeL F x).length≤1048001:=fun x=>by have:=placeL_len F x;omega
   have HPZ:=Lib.hid hpz
   have i1:(0:Int)≤(i:Int):=by omega
   have i2:(i:Int) < (rs.length:Int):=by omega
   have i3:((i:Int)).toNat=i:=by omega
   clear hpz hfl hfl2
   go_wp2_with fail
   go_quiet (fail)
   clear i1 i2 i3
   have hbq:=below_drewN hbr nq
   have HSQ:=Lib.hid (Sl.drewN HS.out nq)
   clear f0 c1 c2 HS
   generalize wr.drewN nq=Wq at *
   cases hv:inR 0 1114111 rlo with
   | true=>
    have P1:=Lib.hid (PC.out S c F rlo Wq HSQ.out (by omega))
    rw [hv] at HC1
    go_wp2_with (go_at_call 80;refine (refValid_any rlo _).mono ?_;rw [hv];rintro e w' ⟨rfl,rfl⟩)
    with_reducible refine P1.out.mono ?_
    rintro e W2 ⟨E,d,rfl,hd,hE,hb2⟩
    have HE:=Lib.hid hE
    have hb3:=hbq.trans (hb2.mono hbq.size)
    have hz2:=HPZ.out rlo
    clear P1 hE HSQ
    by_cases g1:0≤rhi
    ·have q1:decide (0≤rhi)=true:=by simpa using g1
     by_cases g2:rhi < 1114111
     ·have q2:decide (rhi < 1114111)=true:=by simpa using g2
      have hc:=HC1.out
      simp [g1,g2] at hc
      have HC2:=Lib.hid hc
      have P2:=Lib.hid (PC.out E d (placeL F rlo) (rhi+1) W2 HE.out (by omega))
      clear HC1 PC hc
      go_wp2_with fail
      with_reducible refine P2.out.mono ?_
      rintro e W4 ⟨E2,d2,rfl,hd2,hE2,hb4⟩
      have HE2:=Lib.hid hE2
      clear P2 hE2
      go_wp2_with fail
      go_roundw
      case rel=>exact ⟨i+1,E2,d2,by omega,by go_num,by rw [HT.out,HC2.out],by rw [HT.out,HC2.out];exact HE2.out,hb3.trans (hb4.mono hb3.size)⟩
      case measure=>simp [intOf];omega
     ·have q2:decide (rhi < 1114111)=false:=by simpa using g2
      have hc:=HC1.out
      simp [g2] at hc
      have HC2:=Lib.hid hc
      clear HC1 PC hc
      go_wp2_with fail
      go_roundw
      case rel=>exact ⟨i+1,E,d,by omega,by go_num,by rw [HT.out,HC2.out],by rw [HT.out,HC2.out];exact HE.out,hb3⟩
      case measure=>simp [intOf];omega
    ·have q1:decide (0≤rhi)=false:=by simpa using g1
     have hc:=HC1.out
     simp [g1] at hc
     have HC2:=Lib.hid hc
     clear HC1 PC hc
     go_wp2_with fail
     go_roundw
     case rel=>exact ⟨i+1,E,d,by omega,by go_num,by rw [HT.out,HC2.out],by rw [HT.out,HC2.out];exact HE.out,hb3⟩
     case measure=>simp [intOf];omega
   | false=>
    rw [hv] at HC1
    by_cases g1:0≤rhi
    ·have q1:decide (0≤rhi)=true:=by simpa using g1
     by_cases g2:rhi < 1114111
     ·have q2:decide (rhi < 1114111)=true:=by simpa using g2
      have hc:=HC1.out
      simp [g1,g2] at hc
      have HC2:=Lib.hid hc
      have P2:=Lib.hid (PC.out S c F (rhi+1) Wq HSQ.out (by omega))
      clear HC1 PC hc
      go_wp2_with (go_at_call 80;refine (refValid_any rlo _).mono ?_;rw [hv];rintro e w' ⟨rfl,rfl⟩)
      with_reducible refine P2.out.mono ?_
      rintro e W4 ⟨E2,d2,rfl,hd2,hE2,hb4⟩
      have HE2:=Lib.hid hE2
      clear P2 hE2
      go_wp2_with fail
      go_roundw
      case rel=>exact ⟨i+1,E2,d2,by omega,by go_num,by rw [HT.out,HC2.out],by rw [HT.out,HC2.out];exact HE2.out,hbq.trans (hb4.mono hbq.size)⟩
      case measure=>simp [intOf];omega
     ·have q2:decide (rhi < 1114111)=false:=by simpa using g2
      have hc:=HC1.out
      simp [g2] at hc
      have HC2:=Lib.hid hc
      clear HC1 PC hc
      go_wp2_with (go_at_call 80;refine (refValid_any rlo _).mono ?_;rw [hv];rintro e w' ⟨rfl,rfl⟩)
      go_roundw
      case rel=>exact ⟨i+1,S,c,by omega,by go_num,by rw [HT.out,HC2.out],by rw [HT.out,HC2.out];exact HSQ.out,hbq⟩
      case measure=>simp [intOf];omega
    ·have q1:decide (0≤rhi)=false:=by simpa using g1
     have hc:=HC1.out
     simp [g1] at hc
     have HC2:=Lib.hid hc
     clear HC1 PC hc
     go_wp2_with (go_at_call 80;refine (refValid_any rlo _).mono ?_;rw [hv];rintro e w' ⟨rfl,rfl⟩)
     go_roundw
     case rel=>exact ⟨i+1,S,c,by omega,by go_num,by rw [HT.out,HC2.out],by rw [HT.out,HC2.out];exact HSQ.out,hbq⟩
     case measure=>simp [intOf];omega
  ·have hfl:=fold_len (rs.take i) l
   have hfl2:(rs.take i).length≤i:=List.length_take_le _ _
   have PC:=Lib.hid ((place_any S ((rs.take i).foldl cut1 l).length c ((rs.take i).foldl cut1 l) 0 wr HS.out rfl (by omega)).mono (R':=RetIs (placeL ((rs.take i).foldl cut1 l) 0) wr) (fun _ _ h=>h.is))
   rw [List.take_of_length_le (show rs.length≤i by omega)] at PC ⊢
   rw [←ER.out] at PC
   clear ER hfl hfl2
   go_wp2_with fail
   with_reducible refine PC.out.mono ?_
   rintro e W4 ⟨E2,d2,rfl,hd2,hE2,hb4⟩
   have HE2:=Lib.hid hE2
   clear PC hE2
   go_wp2_with fail
   go_ret
   exact ⟨E2,d2,rfl,hd2,HE2.out,hbw.trans (hb4.mono hbw.size)⟩
theorem nxt_lt {cs:List Int} {i:Nat} (h:i < cs.length):nxt cs i=cs[i]:=by unfold nxt;rw [List.getElem?_eq_getElem h];rfl
theorem nxt_end {cs:List Int} {i:Nat} (h:¬i < cs.length):nxt cs i=1114112:=by unfold nxt;rw [List.getElem?_eq_none (by omega)];rfl
section
variable {p:Int→Bool} {cs:List Int} {i:Nat}
theorem bld_no (h:p (nxt cs i)=false):bld p cs (i+1)=((bld p cs i).1,false):=by simp [bld,h]
theorem bld_new (h:p (nxt cs i)=true) (h2:(bld p cs i).2=false):bld p cs (i+1)=((bld p cs i).1++[⟨nxt cs i,nxt cs (i+1) - 1⟩],true):=by simp [bld,h,h2]
theorem bld_old (h:p (nxt cs i)=true) (h2:(bld p cs i).2=true):bld p cs (i+1)=(growL (bld p cs i).1 (nxt cs (i+1) - 1),true):=by simp [bld,h,h2]
theorem bld_len:∀i,(bld p cs i).1.length≤i
 | 0=>Nat.le_refl _
 | i+1=>by
  have ih:=bld_len i
  simp only [bld]
  split
  ·dsimp only
   split
   ·rw [growL_len];omega
   ·rw [List.length_append];simp;omega
  ·dsimp only;omega
end
theorem bld_set {rs:List Rg} {cs:List Int} (h:Ct rs cs) (h0:0 ∈ cs) {i:Nat} (hi:i < cs.length) (h2:(bld (hasR rs) cs i).2=true) :
  ∃k x,(bld (hasR rs) cs i).1.length=k+1∧(bld (hasR rs) cs i).1[k]?=some x∧growL (bld (hasR rs) cs i).1 (nxt cs (i+1) - 1)=(bld (hasR rs) cs i).1.set k ⟨x.lo,nxt cs (i+1) - 1⟩:=by
 have hb:=bld_ok h h0 i (by omega)
 obtain ⟨x,hx,hxh⟩:=hb.yes h2
 have hne:(bld (hasR rs) cs i).1≠[]:=by intro e;rw [e] at hx;cases hx
 have hlt:nxt cs i≤nxt cs (i+1):=by
  rcases Nat.lt_or_ge (i+1) cs.length with g | g
  ·have:=List.pairwise_iff_getElem.1 h.asc i (i+1) (by omega) g (by omega)
   rw [nxt_lt hi,nxt_lt g];omega
  ·rw [nxt_lt hi,nxt_end (by omega)]
   have:=h.bd _ (List.getElem_mem hi)
   omega
 obtain ⟨k,hk⟩:∃k,(bld (hasR rs) cs i).1.length=k+1:=⟨(bld (hasR rs) cs i).1.length - 1,by have:=List.length_pos_iff.2 hne;omega⟩
 have hxk:(bld (hasR rs) cs i).1[k]?=some x:=by
  rw [List.getLast?_eq_getElem?,hk] at hx
  simpa using hx
 refine ⟨k,x,hk,hxk,?_⟩
 rw [growL_set hk]
 have e:(bld (hasR rs) cs i).1[k]'(by omega)=x:=(List.getElem?_eq_some_iff.1 hxk).2
 rw [e]
 congr 2
 omega
theorem flatR_sethi (d:List Rg) (i:Nat) (h:Int) {x:Rg} (hx:d[i]?=some x):(flatK Rg.cells d).set (i*2+1) (.int .i64 h)=flatK Rg.cells (d.set i ⟨x.lo,h⟩):=by
 induction d generalizing i with
 | nil=>simp at hx
 | cons y r ih=>
  cases i with
  | zero=>simp at hx;subst hx;simp [flatK,Rg.cells]
  | succ i=>
   have h1:=ih i (by simpa using hx)
   simp only [flatK,List.flatMap_cons,Rg.cells,List.cons_append,List.nil_append,List.set_cons_succ] at *
   rw [show (i+1)*2=i*2+1+1 by omega]
   simp only [List.set_cons_succ,h1]
theorem info_rg:(Tryz.prog.info? 131).map (fun i=>(i.zero,i.size,i.bytes))=some (some (.agg #[.int .i64 0,.int .i64 0]),2,16):=by kernel_rfl
theorem oneCell_rg (r:Rg):∀u ∈ Rg.cells r,u.oneCell'=true:=by
 intro u hu
 simp only [Rg.cells,List.mem_cons,List.not_mem_nil,or_false] at hu
 rcases hu with rfl | rfl <;> rfl
theorem own_le {w:World} {base:Nat} {e:TypeId} {size n c:Nat} {A:Option Addr} {xs:List Value} (h:w.ownsRow base e size (.slice A n c) n xs):n≤c:=by
 obtain ⟨_,_,hv,hc⟩:=own_form h
 injection hv with _ _ hv
 subst hv
 exact hc
theorem own_off {w:World} {base:Nat} {e:TypeId} {size n:Nat} {v:Value} {xs:List Value} (h:w.ownsRow base e size v n xs) {p:Addr} (hp:p.block < base) (u:Value):(w.setCell p u).ownsRow base e size v n xs:=
 h.kept (grown_set w p u) (by
  cases hv:v.ownBlock with
  | none=>exact .inl rfl
  | some q=>
   right
   have:=(h.lt q hv).1
   intro e
   injection e with e
   omega)
theorem results_comb (tmps:Array Value) (w:World) {b:Nat} {v0:Value} (ha:tmps.getD 6 undef=.pointer (some ⟨b,0,none⟩)) (c0:w.cell? ⟨b,0,none⟩=some v0) :
  (results Tryz.f130 tmps).run Tryz.prog w=.ok (.agg #[v0]) w:=by
 have hr:Tryz.f130.results=#[.cell 6 26]:=rfl
 unfold results
 rw [hr]
 simp only [ha,List.mapM_toArray,List.mapM_cons,List.mapM_nil,asAddr]
 go_simp
def RetSet (rs:List Rg) (w:World) (e:Ending) (w':World):Prop:=∃E d,e=.returned (.agg #[.slice E rs.length d])∧rs.length≤d∧Rgs w' E rs∧Below w.heap.size w w'
theorem combine_any (A:Option Addr) (n a:Nat) (rs:List Rg) (w:World) (hA:Rgs w A rs) (hn:rs.length=n) (hz:n≤1000) :
  Calls Tryz.prog 130 #[.agg #[.slice A n a],.agg #[.slice none 0 0],.int .i64 1] w (RetSet (canR rs) w):=by
 have B0:Below w.heap.size w (((w.alloc (.cells #[.slice A n a] 26)).alloc (.cells #[.slice none 0 0] 26)).alloc (.cells #[.slice none 0 0] 26)):=(((Below.refl _ _).alloc (Nat.le_refl _) _).alloc (by simp) _).alloc (by simp;omega) _
 have k0:(((w.alloc (.cells #[.slice A n a] 26)).alloc (.cells #[.slice none 0 0] 26)).alloc (.cells #[.slice none 0 0] 26)).cell? ⟨w.heap.size,0,none⟩=some (.slice A n a):=by go_simp
 have k1:(((w.alloc (.cells #[.slice A n a] 26)).alloc (.cells #[.slice none 0 0] 26)).alloc (.cells #[.slice none 0 0] 26)).cell? ⟨w.heap.size+1,0,none⟩=some (.slice none 0 0):=by go_simp
 have X0:Box (((w.alloc (.cells #[.slice A n a] 26)).alloc (.cells #[.slice none 0 0] 26)).alloc (.cells #[.slice none 0 0] 26)) (w.heap.size+2) 26 [.slice none 0 0]:=Box.new _ _ _ (by simp)
 have s0:(((w.alloc (.cells #[.slice A n a] 26)).alloc (.cells #[.slice none 0 0] 26)).alloc (.cells #[.slice none 0 0] 26)).heap.size=w.heap.size+3:=by simp
 have W0E:∃W0,(((w.alloc (.cells #[.slice A n a] 26)).alloc (.cells #[.slice none 0 0] 26)).alloc (.cells #[.slice none 0 0] 26))=W0:=⟨_,rfl⟩
 have h1:=(Ct.nil).cuts (rs:=rs)
 have h2:=h1.1.cuts (rs:=[])
 rw [List.append_nil,List.nil_append] at h2
 have HCT:=Lib.hid h2
 have CU1:=Lib.hid (fun W (hb:Below w.heap.size w W)=>Cuts_any none 0 0 [] A n a rs W (Sl.nil _ _) rfl (hA.below hb) hn (by omega) (by omega))
 have hcl:(cutsL [] rs).length≤2001:=by have:_≤0+2*rs.length+1:=cuts_len rs [];omega
 have CU2:=Lib.hid (fun (E:Option Addr) d W hE=>Cuts_any E (cutsL [] rs).length d (cutsL [] rs) none 0 0 [] W hE rfl (Sl.nil _ _) rfl (by omega) (by omega))
 have hcl2:(cutsL (cutsL [] rs) []).length≤2002:=by have:(cutsL (cutsL [] rs) []).length≤(cutsL [] rs).length+2*0+1:=cuts_len [] (cutsL [] rs);omega
 have HR:=Lib.hid (show canR rs=(bld (hasR rs) (cutsL (cutsL [] rs) []) (cutsL (cutsL [] rs) []).length).1 from rfl)
 have HAS:=Lib.hid (fun x W (hb:Below w.heap.size w W)=>refHas_any A n a rs x W (hA.below hb) hn (by omega))
 have HAN:=Lib.hid (fun x W=>refHas_any none 0 0 [] x W (Sl.nil _ _) rfl (by omega))
 have HN0:=Lib.hid (fun x=>show hasR [] x=false by simp [hasR])
 generalize canR rs=R at *
 generalize cutsL [] rs=L1 at *
 generalize cutsL L1 []=cs at *
 clear h1 h2 hA
 go_enter Tryz.func130,Tryz.ntmps130
 go_wp2_with fail
 obtain ⟨W0,hW0⟩:=W0E
 rw [hW0] at B0 k0 k1 X0 s0 ⊢
 clear hW0
 have hx0:w.heap.size < W0.heap.size:=by omega
 have hx1:w.heap.size+1 < W0.heap.size:=by omega
 have hx2:w.heap.size+2 < W0.heap.size:=by omega
 have KP:=Lib.hid (show ∀W',Below W0.heap.size W0 W'→(W'.cell? ⟨w.heap.size,0,none⟩=some (.slice A n a)∧W'.cell? ⟨w.heap.size+1,0,none⟩=some (.slice none 0 0))∧Below W0.heap.size W0 W' from fun W' hb=>⟨⟨(hb.cell (p:=⟨w.heap.size,0,none⟩) hx0).trans k0,(hb.cell (p:=⟨w.heap.size+1,0,none⟩) hx1).trans k1⟩,hb⟩)
 have C1:=Lib.hid (fun W (hb:Below W0.heap.size W0 W)=>(CU1.out W (B0.trans (hb.mono B0.size))).mono (R':=fun e W'=>∃v,e=.returned v∧((W'.cell? ⟨w.heap.size,0,none⟩=some (.slice A n a)∧W'.cell? ⟨w.heap.size+1,0,none⟩=some (.slice none 0 0))∧Below W0.heap.size W0 W')∧(∃E d,v=.slice E L1.length d∧Ints W' E L1)) (fun e w' ⟨E,d,he,_,hE,hb'⟩=>⟨_,he,KP.out w' (hb.trans (hb'.mono hb.size)),E,d,rfl,hE⟩))
 have C2:=Lib.hid (fun (E:Option Addr) d W (hb:Below W0.heap.size W0 W) hE=>(CU2.out E d W hE).mono (R':=fun e W'=>∃v,e=.returned v∧((W'.cell? ⟨w.heap.size,0,none⟩=some (.slice A n a)∧W'.cell? ⟨w.heap.size+1,0,none⟩=some (.slice none 0 0))∧Below W0.heap.size W0 W')∧(∃E d,v=.slice E cs.length d∧Ints W' E cs)) (fun e w' ⟨E,d,he,_,hE,hb'⟩=>⟨_,he,KP.out w' (hb.trans (hb'.mono hb.size)),E,d,rfl,hE⟩))
 refine wp_region_held_drew (S:=fun W'=>(W'.cell? ⟨w.heap.size,0,none⟩=some (.slice A n a)∧W'.cell? ⟨w.heap.size+1,0,none⟩=some (.slice none 0 0))∧Below W0.heap.size W0 W') (by kernel_rfl) (KP.out _ (Below.refl _ _).drew) (fun hHeld=>?_)
 refine tK 0 13 ?_
 refine tK 2 15 ?_
 refine anyH_callE (i:=1) (some 14) rfl rfl (by kernel_rfl) (by rfl) (by go_simp) (C1.out _ hHeld.2) (fun v W3 hS6 hR6=>?_)
 obtain ⟨E1,d1,rfl,hE1⟩:=hR6
 clear hHeld
 have hHeld:=hS6
 clear hS6
 try simp only [Act.put,List.setIfInBounds_toArray,List.set_cons_zero,List.set_cons_succ]
 refine anyH_callE (i:=3) (some 16) rfl rfl (by kernel_rfl) (by rfl) (by go_simp) (C2.out E1 d1 W3 hHeld.2 hE1) (fun v W4 hS6 hR6=>?_)
 obtain ⟨E2,d2,rfl,hE2⟩:=hR6
 clear hHeld
 have hHeld:=hS6
 clear hS6
 try simp only [Act.put,List.setIfInBounds_toArray,List.set_cons_zero,List.set_cons_succ]
 refine tK 4 7 ?_
 refine wpAnyH_done (by kernel_rfl) ?_ _
 have hb4:=hHeld.2
 have HE2:=Lib.hid hE2
 clear hHeld hE1 hE2 C1 C2 CU1 CU2
 have hx4:w.heap.size+2 < W4.heap.size:=by have:=hb4.size;omega
 have B5:Below W4.heap.size W4 (W4.alloc (.cells #[.slice none 0 0] 26)):=(Below.refl _ _).alloc (Nat.le_refl _) _
 have X5:Box (W4.alloc (.cells #[.slice none 0 0] 26)) W4.heap.size 26 [.slice none 0 0]:=Box.new _ _ _ rfl
 have s5:(W4.alloc (.cells #[.slice none 0 0] 26)).heap.size=W4.heap.size+1:=by simp
 have W5E:∃W5,W4.alloc (.cells #[.slice none 0 0] 26)=W5:=⟨_,rfl⟩
 go_wp2_with fail
 obtain ⟨W5,hW5⟩:=W5E
 rw [hW5] at B5 X5 s5 ⊢
 clear hW5
 have HX5:=Lib.hid X5
 have HNIL:=Lib.hid (show W5.ownsRow W5.heap.size 131 2 (.slice none 0 0) 0 ([]:List Value) from World.ownsRow_nil _ _ _ _)
 clear X5
 go_loopw [9,10] (fun v u wr=>∃(i:Nat) (S:Option Addr) (k:Nat),i≤cs.length∧u=.int .i64 i∧v=.bool (bld (hasR rs) cs i).2∧Box wr W4.heap.size 26 [.slice S (bld (hasR rs) cs i).1.length k]∧wr.ownsRow W5.heap.size 131 2 (.slice S (bld (hasR rs) cs i).1.length k) (bld (hasR rs) cs i).1.length (flatK Rg.cells (bld (hasR rs) cs i).1)∧Below W4.heap.size W4 wr∧W5.heap.size≤wr.heap.size) (fun _ u _=>cs.length - (intOf u).toNat)
 case atStart=>exact ⟨0,none,0,Nat.zero_le _,rfl,rfl,HX5.out,HNIL.out,B5,Nat.le_refl _⟩
 case round=>
  obtain ⟨i,S,k,hi,rfl,rfl,hX,hown,hbr,hsr⟩:=hrel
  have HX:=Lib.hid hX;have HOWN:=Lib.hid hown
  clear hX hown HX5 HNIL
  have hb6:=hb4.trans (hbr.mono hb4.size)
  have hbw:=B0.trans (hb6.mono B0.size)
  have hbl0:=bld_len (p:=hasR rs) (cs:=cs) i
  by_cases hlt:i < cs.length
  ·obtain ⟨b1,o1,rfl,hci⟩:=(HE2.out.below hbr).at hlt
   have cx:=hci i hlt
   have hbl:=World.block_lt_of_cell? wr _ cx
   have hbx:=HCT.out.1.bd _ (List.getElem_mem hlt)
   have NX:=Lib.hid (nxt_lt hlt)
   have BN:=Lib.hid (bld_no (p:=hasR rs) (cs:=cs) (i:=i))
   have BW:=Lib.hid (bld_new (p:=hasR rs) (cs:=cs) (i:=i))
   have BO:=Lib.hid (bld_old (p:=hasR rs) (cs:=cs) (i:=i))
   have BS:=Lib.hid (fun h=>bld_set HCT.out.1 HCT.out.2 hlt h)
   have HHI:=Lib.hid (show ∃hv:Int,nxt cs (i+1) - 1=hv∧(∀h:i+1 < cs.length,wr.cell? ⟨b1,o1+(i+1),none⟩=some (.int .i64 (hv+1))∧-1≤hv∧hv≤1114111)∧(¬i+1 < cs.length→hv=1114111) from ⟨_,rfl,fun h=>by rw [nxt_lt h];have:=HCT.out.1.bd _ (List.getElem_mem h);refine ⟨?_,by omega,by omega⟩;rw [show cs[i+1] - 1+1=cs[i+1] by omega];exact hci (i+1) h,fun h=>by rw [nxt_end h];rfl⟩)
   obtain ⟨hv,HV0,HV1,HV2⟩:=HHI.out
   have HVV:=Lib.hid HV0
   have HV1':=Lib.hid HV1
   have HV2':=Lib.hid HV2
   clear hci HHI HV0 HV1 HV2
   rw [NX.out,HVV.out] at BW
   rw [NX.out] at BN BO
   rw [HVV.out] at BO BS
   generalize cs[i]=x at *
   have i1:(0:Int)≤(i:Int):=by omega
   have i2:(i:Int) < (cs.length:Int):=by omega
   have i3:((i:Int)).toNat=i:=by omega
   have KS:=Lib.hid (show ∀W',Below wr.heap.size wr W'→(W'.cell? ⟨w.heap.size,0,none⟩=some (.slice A n a)∧W'.cell? ⟨w.heap.size+1,0,none⟩=some (.slice none 0 0)∧W'.cell? ⟨b1,o1+i,none⟩=some (.int .i64 x))∧Below wr.heap.size wr W' from fun W' hb=>by
    obtain ⟨⟨a1,a2⟩,_⟩:=KP.out W' (hb6.trans (hb.mono hb6.size))
    exact ⟨⟨a1,a2,(hb.cell (p:=⟨b1,o1+i,none⟩) hbl).trans cx⟩,hb⟩)
   have H1:=Lib.hid (fun W (hb:Below wr.heap.size wr W)=>(HAS.out x W (hbw.trans (hb.mono hbw.size))).mono (R':=fun e W'=>e=.returned (.bool (hasR rs x))∧((W'.cell? ⟨w.heap.size,0,none⟩=some (.slice A n a)∧W'.cell? ⟨w.heap.size+1,0,none⟩=some (.slice none 0 0)∧W'.cell? ⟨b1,o1+i,none⟩=some (.int .i64 x))∧Below wr.heap.size wr W')) (fun e w' ⟨he,hb'⟩=>⟨he,KS.out w' (hb.trans (hb'.mono hb.size))⟩))
   have H2:=Lib.hid (fun W (hb:Below wr.heap.size wr W)=>(HAN.out x W).mono (R':=fun e W'=>e=.returned (.bool false)∧((W'.cell? ⟨w.heap.size,0,none⟩=some (.slice A n a)∧W'.cell? ⟨w.heap.size+1,0,none⟩=some (.slice none 0 0)∧W'.cell? ⟨b1,o1+i,none⟩=some (.int .i64 x))∧Below wr.heap.size wr W')) (fun e w' ⟨he,hb'⟩=>⟨by rw [he,HN0.out],KS.out w' (hb.trans (hb'.mono hb.size))⟩))
   have H3:=Lib.hid (fun y W (hS:(W.cell? ⟨w.heap.size,0,none⟩=some (.slice A n a)∧W.cell? ⟨w.heap.size+1,0,none⟩=some (.slice none 0 0)∧W.cell? ⟨b1,o1+i,none⟩=some (.int .i64 x))∧Below wr.heap.size wr W)=>(keepsOr_any y false W).mono (R':=fun e W'=>e=.returned (.bool (y || false))∧((W'.cell? ⟨w.heap.size,0,none⟩=some (.slice A n a)∧W'.cell? ⟨w.heap.size+1,0,none⟩=some (.slice none 0 0)∧W'.cell? ⟨b1,o1+i,none⟩=some (.int .i64 x))∧Below wr.heap.size wr W')) (fun e w' ⟨he,hw⟩=>⟨he,by subst hw;exact hS⟩))
   generalize hasR rs x=inx at *
   generalize hB0:bld (hasR rs) cs i=bi at *
   obtain ⟨out,op⟩:=bi
   dsimp only at *
   clear hB0
   by_cases hl1:i+1 < cs.length
   ·obtain ⟨cy,hv1,hv2⟩:=HV1'.out hl1
    have ch:=hv1
    clear HV1' HV2' HVV
    have q1:decide (i+1 < cs.length)=true:=by simpa using hl1
    go_wp2_with fail
    clear cy
    refine wp_region_held_drew (S:=fun W'=>(W'.cell? ⟨w.heap.size,0,none⟩=some (.slice A n a)∧W'.cell? ⟨w.heap.size+1,0,none⟩=some (.slice none 0 0)∧W'.cell? ⟨b1,o1+i,none⟩=some (.int .i64 x))∧Below wr.heap.size wr W') (by kernel_rfl) (KS.out _ (Below.refl _ _).drew) (fun hHeld=>?_)
    refine tK 0 34 ?_
    refine tK 1 35 ?_
    refine tK 2 36 ?_
    refine tK 3 37 ?_
    refine tK 4 38 ?_
    refine tK 5 39 ?_
    refine tK 7 41 ?_
    refine tK 8 42 ?_
    refine tK 9 43 ?_
    refine tK 10 44 ?_
    refine tK 11 45 ?_
    refine qK 6 40 (H1.out _ hHeld.2) ?_
    clear hHeld
    intro W6 hHeld
    refine qK 12 46 (H2.out _ hHeld.2) ?_
    clear hHeld
    intro W7 hHeld
    refine qK 13 47 (H3.out inx _ hHeld) ?_
    clear hHeld
    intro W8 hHeld
    refine tK 14 12 ?_
    refine wpAnyH_done (by kernel_rfl) ?_ _
    have Bp:=hHeld.2
    have cx8:=hHeld.1.2.2
    have hb8:=hbr.trans (Bp.mono hbr.size)
    have hs8:=Bp.size
    have X8:=HX.out.below Bp HX.out.lt
    have O8:=own_keep HOWN.out Bp
    have hO:=HX.out.lt
    clear hHeld H1 H2 H3 KS cx HX HOWN
    cases inx with
    | false=>
     have HQ:=Lib.hid (BN.out rfl)
     have HX8:=Lib.hid X8
     have HO8:=Lib.hid O8
     clear BN BW BO BS X8 O8 i1 i2 i3 cx8
     go_wp2_with fail
     go_roundw
     case rel=>exact ⟨i+1,S,k,by omega,by go_num,by rw [HQ.out],by rw [HQ.out];exact HX8.out,by rw [HQ.out];exact HO8.out,hb8,by omega⟩
     case measure=>simp [intOf];omega
    | true=>
     cases op with
     | true=>
      have HQ:=Lib.hid (BO.out rfl rfl)
      obtain ⟨j,y,hj,hy,hgr⟩:=BS.out rfl
      obtain ⟨g,hS⟩:∃g,S=some ⟨g,0,none⟩:=by
       rcases O8.2 with ⟨_,h0⟩ | ⟨g,cap,cur,hv',_⟩
       ·omega
       ·injection hv' with hA' _ _;exact ⟨g,hA'⟩
      subst hS
      have gO:W5.heap.size≤g:=(O8.lt g rfl).1
      have gne:¬g=W4.heap.size:=by omega
      have st:=World.ownsRow.stored O8 (j*2+1) (.int .i64 hv)
      rw [flatR_sethi out j hv hy] at st
      have y1:W8.cell? ⟨g,j*2+1,none⟩=some (.int .i64 y.hi):=by
       rw [World.ownsRow.cellAt O8 (j*2+1) (by omega),flatK_get Rg.cells 2 (fun _=>rfl) out j 1 (by omega) (by omega),(List.getElem?_eq_some_iff.1 hy).2]
       rfl
      have f1:=World.ownsRow.frozenAt O8 (j*2+1)
      have c8:=X8.cell (i:=0) rfl
      have HXS:=Lib.hid (X8.grown st.2 (by simpa using fun e=>gne e.symm))
      have HST:=Lib.hid st.1
      have hbs:=hb8.setCell (p:=⟨g,j*2+1,none⟩) (by show W4.heap.size≤g;omega) (.int .i64 hv)
      have HG:=Lib.hid hgr
      have HL:=Lib.hid hj
      clear BN BW BO BS X8 O8 st hgr hy cx8
      rw [HL.out] at c8
      have j1:IntKind.i64.wrap (((j+1:Nat):Int) - 1)=(j:Int):=by rw [IntWalk.i64_in _ (by omega)];omega
      go_wp2_with fail
      go_roundw
      case rel=>exact ⟨i+1,some ⟨g,0,none⟩,k,by omega,by go_num,by rw [HQ.out],by rw [HQ.out];dsimp only;rw [HG.out,List.length_set];exact HXS.out,by rw [HQ.out];dsimp only;rw [HG.out,List.length_set];exact HST.out,hbs,by simp;omega⟩
      case measure=>simp [intOf];omega
     | false=>
      have HQ:=Lib.hid (BW.out rfl rfl)
      have c8:=X8.cell (i:=0) rfl
      have Bq:Below W8.heap.size W8 (W8.alloc (.cells #[.int .i64 x,.int .i64 hv] 131)).drew:=((Below.refl _ _).alloc (Nat.le_refl _) _).drew
      have HA1:=Lib.hid (own_keep O8 Bq)
      have HA2:Hid (Sl (W8.alloc (.cells #[.int .i64 x,.int .i64 hv] 131)).drew (some ⟨W8.heap.size,0,none⟩) (Rg.cells ⟨x,hv⟩)):=Lib.hid (Sl_new W8 (Rg.cells ⟨x,hv⟩) 131 rfl)
      have HXA:=Lib.hid (X8.below Bq (by omega))
      have hbq:=hb8.trans (Bq.mono hb8.size)
      have szp:W5.heap.size≤(W8.alloc (.cells #[.int .i64 x,.int .i64 hv] 131)).drew.heap.size:=Nat.le_trans (by omega:W5.heap.size≤W8.heap.size) Bq.size
      have h45:W4.heap.size≤W5.heap.size:=by omega
      have h46:W4.heap.size < W5.heap.size:=by omega
      have hOc:W4.heap.size < W8.heap.size:=by omega
      have hbb1:b1 < W8.heap.size:=by have:b1 < _:=hbl;omega
      clear BN BW BO BS X8 O8 Bq
      go_wp2_with fail
      go_region_law (refine step_app rfl (.tmp 67) (.tmp 74) 24 131 (.agg #[.int .i64 0,.int .i64 0]) 2 16 rfl Tryz.underlying24 info_rg rfl (by decide) (by decide) rfl HA1.out rfl HA2.out rfl (oneCell_rg _) (by omega) szp ?_;intro A9 c9 w9 hown9 hc9 hb9 hgr9 _;have X9:=HXA.out.below hb9 h46;have o9:=X9.cell (i:=0) rfl;have f9:=X9.free 0;have HX9:=Lib.hid X9;have HO9:=Lib.hid hown9;have hbz:=hbq.trans (hb9.mono h45);have sz9:=hbz.size;clear X9 hown9)
      all_goals
       go_wp2_with fail
       go_roundw
       case rel=>
        refine ⟨i+1,A9,c9,by omega,by go_num,by rw [HQ.out],?_,?_,?_,?_⟩
        ·rw [HQ.out];dsimp only;rw [List.length_append];exact HX9.out.set 0 _
        ·rw [HQ.out];dsimp only;rw [List.length_append,flatK_append];exact own_off HO9.out (p:=⟨W4.heap.size,0,none⟩) h46 _
        ·exact hbz.setCell (p:=⟨W4.heap.size,0,none⟩) (Nat.le_refl _) _
        ·have:=hb9.size;simp at this ⊢;omega
       case measure=>simp [intOf];omega
   ·have ev:=HV2'.out hl1
    subst ev
    clear HV1' HV2' HVV
    have q1:decide (i+1 < cs.length)=false:=by simpa using hl1
    go_wp2_with fail
    refine wp_region_held_drew (S:=fun W'=>(W'.cell? ⟨w.heap.size,0,none⟩=some (.slice A n a)∧W'.cell? ⟨w.heap.size+1,0,none⟩=some (.slice none 0 0)∧W'.cell? ⟨b1,o1+i,none⟩=some (.int .i64 x))∧Below wr.heap.size wr W') (by kernel_rfl) (KS.out _ (Below.refl _ _).drew) (fun hHeld=>?_)
    refine tK 0 34 ?_
    refine tK 1 35 ?_
    refine tK 2 36 ?_
    refine tK 3 37 ?_
    refine tK 4 38 ?_
    refine tK 5 39 ?_
    refine tK 7 41 ?_
    refine tK 8 42 ?_
    refine tK 9 43 ?_
    refine tK 10 44 ?_
    refine tK 11 45 ?_
    refine qK 6 40 (H1.out _ hHeld.2) ?_
    clear hHeld
    intro W6 hHeld
    refine qK 12 46 (H2.out _ hHeld.2) ?_
    clear hHeld
    intro W7 hHeld
    refine qK 13 47 (H3.out inx _ hHeld) ?_
    clear hHeld
    intro W8 hHeld
    refine tK 14 12 ?_
    refine wpAnyH_done (by kernel_rfl) ?_ _
    have Bp:=hHeld.2
    have cx8:=hHeld.1.2.2
    have hb8:=hbr.trans (Bp.mono hbr.size)
    have hs8:=Bp.size
    have X8:=HX.out.below Bp HX.out.lt
    have O8:=own_keep HOWN.out Bp
    have hO:=HX.out.lt
    clear hHeld H1 H2 H3 KS cx HX HOWN
    cases inx with
    | false=>
     have HQ:=Lib.hid (BN.out rfl)
     have HX8:=Lib.hid X8
     have HO8:=Lib.hid O8
     clear BN BW BO BS X8 O8 i1 i2 i3 cx8
     go_wp2_with fail
     go_roundw
     case rel=>exact ⟨i+1,S,k,by omega,by go_num,by rw [HQ.out],by rw [HQ.out];exact HX8.out,by rw [HQ.out];exact HO8.out,hb8,by omega⟩
     case measure=>simp [intOf];omega
    | true=>
     cases op with
     | true=>
      have HQ:=Lib.hid (BO.out rfl rfl)
      obtain ⟨j,y,hj,hy,hgr⟩:=BS.out rfl
      obtain ⟨g,hS⟩:∃g,S=some ⟨g,0,none⟩:=by
       rcases O8.2 with ⟨_,h0⟩ | ⟨g,cap,cur,hv',_⟩
       ·omega
       ·injection hv' with hA' _ _;exact ⟨g,hA'⟩
      subst hS
      have gO:W5.heap.size≤g:=(O8.lt g rfl).1
      have gne:¬g=W4.heap.size:=by omega
      have st:=World.ownsRow.stored O8 (j*2+1) (.int .i64 1114111)
      rw [flatR_sethi out j 1114111 hy] at st
      have y1:W8.cell? ⟨g,j*2+1,none⟩=some (.int .i64 y.hi):=by
       rw [World.ownsRow.cellAt O8 (j*2+1) (by omega),flatK_get Rg.cells 2 (fun _=>rfl) out j 1 (by omega) (by omega),(List.getElem?_eq_some_iff.1 hy).2]
       rfl
      have f1:=World.ownsRow.frozenAt O8 (j*2+1)
      have c8:=X8.cell (i:=0) rfl
      have HXS:=Lib.hid (X8.grown st.2 (by simpa using fun e=>gne e.symm))
      have HST:=Lib.hid st.1
      have hbs:=hb8.setCell (p:=⟨g,j*2+1,none⟩) (by show W4.heap.size≤g;omega) (.int .i64 1114111)
      have HG:=Lib.hid hgr
      have HL:=Lib.hid hj
      clear BN BW BO BS X8 O8 st hgr hy cx8
      rw [HL.out] at c8
      have j1:IntKind.i64.wrap (((j+1:Nat):Int) - 1)=(j:Int):=by rw [IntWalk.i64_in _ (by omega)];omega
      go_wp2_with fail
      go_roundw
      case rel=>exact ⟨i+1,some ⟨g,0,none⟩,k,by omega,by go_num,by rw [HQ.out],by rw [HQ.out];dsimp only;rw [HG.out,List.length_set];exact HXS.out,by rw [HQ.out];dsimp only;rw [HG.out,List.length_set];exact HST.out,hbs,by simp;omega⟩
      case measure=>simp [intOf];omega
     | false=>
      have HQ:=Lib.hid (BW.out rfl rfl)
      have c8:=X8.cell (i:=0) rfl
      have Bq:Below W8.heap.size W8 (W8.alloc (.cells #[.int .i64 x,.int .i64 1114111] 131)).drew:=((Below.refl _ _).alloc (Nat.le_refl _) _).drew
      have HA1:=Lib.hid (own_keep O8 Bq)
      have HA2:Hid (Sl (W8.alloc (.cells #[.int .i64 x,.int .i64 1114111] 131)).drew (some ⟨W8.heap.size,0,none⟩) (Rg.cells ⟨x,1114111⟩)):=Lib.hid (Sl_new W8 (Rg.cells ⟨x,1114111⟩) 131 rfl)
      have HXA:=Lib.hid (X8.below Bq (by omega))
      have hbq:=hb8.trans (Bq.mono hb8.size)
      have szp:W5.heap.size≤(W8.alloc (.cells #[.int .i64 x,.int .i64 1114111] 131)).drew.heap.size:=Nat.le_trans (by omega:W5.heap.size≤W8.heap.size) Bq.size
      have h45:W4.heap.size≤W5.heap.size:=by omega
      have h46:W4.heap.size < W5.heap.size:=by omega
      have hOc:W4.heap.size < W8.heap.size:=by omega
      have hbb1:b1 < W8.heap.size:=by have:b1 < _:=hbl;omega
      clear BN BW BO BS X8 O8 Bq
      go_wp2_with fail
      go_region_law (refine step_app rfl (.tmp 67) (.tmp 74) 24 131 (.agg #[.int .i64 0,.int .i64 0]) 2 16 rfl Tryz.underlying24 info_rg rfl (by decide) (by decide) rfl HA1.out rfl HA2.out rfl (oneCell_rg _) (by omega) szp ?_;intro A9 c9 w9 hown9 hc9 hb9 hgr9 _;have X9:=HXA.out.below hb9 h46;have o9:=X9.cell (i:=0) rfl;have f9:=X9.free 0;have HX9:=Lib.hid X9;have HO9:=Lib.hid hown9;have hbz:=hbq.trans (hb9.mono h45);have sz9:=hbz.size;clear X9 hown9)
      all_goals
       go_wp2_with fail
       go_roundw
       case rel=>
        refine ⟨i+1,A9,c9,by omega,by go_num,by rw [HQ.out],?_,?_,?_,?_⟩
        ·rw [HQ.out];dsimp only;rw [List.length_append];exact HX9.out.set 0 _
        ·rw [HQ.out];dsimp only;rw [List.length_append,flatK_append];exact own_off HO9.out (p:=⟨W4.heap.size,0,none⟩) h46 _
        ·exact hbz.setCell (p:=⟨W4.heap.size,0,none⟩) (Nat.le_refl _) _
        ·have:=hb9.size;simp at this ⊢;omega
       case measure=>simp [intOf];omega
  ·obtain rfl:i=cs.length:=by omega
   have X9:=HX.out
   have X0':=(X0.below hb6 hx2)
   have c9:=X9.cell (i:=0) rfl
   have z9:=X0'.cell (i:=0) rfl
   have f9:=X0'.free 0
   have hxr:W4.heap.size < wr.heap.size:=X9.lt
   have hne1:¬W4.heap.size=w.heap.size+2:=by omega
   have hne2:¬w.heap.size+2=W4.heap.size:=by omega
   rw [←HR.out] at c9 HOWN
   have hbf:=hbw.setCell (p:=⟨w.heap.size+2,0,none⟩) (by show w.heap.size≤w.heap.size+2;omega) (.slice S R.length k)
   have HRW:=Lib.hid (Sl.of_own (own_off HOWN.out (p:=⟨w.heap.size+2,0,none⟩) (by show w.heap.size+2 < W5.heap.size;omega) (.slice S R.length k)))
   have hc:=own_le HOWN.out
   clear HX X9 X0' HR HOWN
   go_wp2_with fail
   (try simp only [Exit.inBlock,Exit.then]);refine bodyPost_ret (results_comb _ _ (b:=w.heap.size+2) (v0:=.slice S R.length k) rfl (by go_simp)) rfl ?_
   exact ⟨S,k,rfl,hc,HRW.out,hbf⟩
end Go.Proofs.YtijgbonhjcblcaaGreatDoor
namespace Go.Proofs.YtijgbonhjcblcaaGreatDoor
open Go.RowKit Go.Maps Go.WideMaps
theorem results_rmake (tmps:Array Value) (w:World) {b:Nat} {v0:Value} (ha:tmps.getD 2 undef=.pointer (some ⟨b,0,none⟩)) (c0:w.cell? ⟨b,0,none⟩=some v0) :
  (results Tryz.f85 tmps).run Tryz.prog w=.ok (.agg #[v0]) w:=by
 have hr:Tryz.f85.results=#[.cell 2 26]:=rfl
 unfold results
 rw [hr]
 simp only [ha,List.mapM_toArray,List.mapM_cons,List.mapM_nil,asAddr]
 go_simp
theorem refMake_any (A:Option Addr) (n a:Nat) (rs:List Rg) (w:World) (hA:Rgs w A rs) (hn:rs.length=n) (hz:n≤1000) :
  Calls Tryz.prog 85 #[.slice A n a] w (RetSet (canR rs) w):=by
 have B0:Below w.heap.size w (w.alloc (.cells #[.slice none 0 0] 26)):=(Below.refl _ _).alloc (Nat.le_refl _) _
 have X0:Box (w.alloc (.cells #[.slice none 0 0] 26)) w.heap.size 26 [.slice none 0 0]:=Box.new _ _ _ rfl
 have CC:=Lib.hid (combine_any A n a rs (w.alloc (.cells #[.slice none 0 0] 26)) (hA.below B0) hn hz)
 have W0E:∃W0,(w.alloc (.cells #[.slice none 0 0] 26))=W0:=⟨_,rfl⟩
 generalize canR rs=R at *
 clear hA
 go_enter Tryz.func85,Tryz.ntmps85
 go_wp2_with fail
 obtain ⟨W0,hW0⟩:=W0E
 rw [hW0] at B0 X0 CC ⊢
 clear hW0
 with_reducible refine CC.out.mono ?_
 rintro e W1 ⟨E,d,rfl,hd,hE,hb1⟩
 have X1:=X0.below hb1 X0.lt
 have c1:=X1.cell (i:=0) rfl
 have f1:=X1.free 0
 have hlt:=X1.lt
 have HE:=Lib.hid hE
 have HB:=Lib.hid (show Rgs (W1.setCell ⟨w.heap.size,0,none⟩ (.slice E R.length d)) E R from fun hne=>by
  obtain ⟨b,o,hA,hc⟩:=HE.out hne
  refine ⟨b,o,hA,fun j u hu=>?_⟩
  have h1:=hc j u hu
  refine (World.cell?_setCell_far _ _ _ _ (fun e=>?_)).trans h1
  have e':w.heap.size=b:=e
  subst e'
  have h3:W1.cell? ⟨w.heap.size,o+j,none⟩=some u:=h1
  have hint:∃z,u=.int .i64 z:=by
   have hm:u ∈ flatK Rg.cells R:=List.mem_of_getElem? hu
   obtain ⟨r,_,hr⟩:=List.mem_flatMap.1 hm
   simp only [Rg.cells,List.mem_cons,List.not_mem_nil,or_false] at hr
   rcases hr with rfl | rfl
   ·exact ⟨_,rfl⟩
   ·exact ⟨_,rfl⟩
  obtain ⟨z,rfl⟩:=hint
  unfold Box at X1
  rcases hoj:o+j with _ | m
  ·rw [hoj] at h3;rw [c1] at h3;cases h3
  ·rw [hoj] at h3
   simp [World.cell?,X1] at h3)
 have hbf:=(B0.trans (hb1.mono B0.size)).setCell (p:=⟨w.heap.size,0,none⟩) (Nat.le_refl _) (.slice E R.length d)
 clear CC X0 X1 hE
 go_wp2_with fail
 (try simp only [Exit.inBlock,Exit.then]);refine bodyPost_ret (results_rmake _ _ (b:=w.heap.size) (v0:=.slice E R.length d) rfl (by go_simp)) rfl ?_
 exact ⟨E,d,rfl,hd,HB.out,hbf⟩
theorem neq_rg (a b c d:Int) (w:World):(binOp .neq 131 (.agg #[.int .i64 a,.int .i64 b]) (.agg #[.int .i64 c,.int .i64 d])).run Tryz.prog w=.ok (.bool (!decide ((⟨a,b⟩:Rg)=⟨c,d⟩))) w:=by
 have u3:=Tryz.underlying3
 have a3:=Tryz.isAgg3
 have z3:=Tryz.sizeOf3
 have hS:Tryz.prog.underlying 131=some (.struct (Tryz.prog.fieldsOf 131)):=by kernel_rfl
 have hp:Tryz.prog.stoodInHeld 131=false:=by kernel_rfl
 rw [run_neq_struct,show (10000:Nat)=9999+1 from rfl,run_equalIn_agg w 9999 131 _ _ hS hp]
 simp only [Program.fieldsOf,Tryz.underlying131]
 go_simp
 by_cases h2:a=c <;> by_cases h3:b=d <;> simp [h2,h3]
theorem sameR_len {xs ys:List Rg} (h:xs.length≠ys.length):decide (xs=ys)=false:=by simp;exact fun e=>h (by rw [e])
theorem sameR_ne {xs ys:List Rg} {k:Nat} (h1:k < xs.length) (h2:k < ys.length) (h:¬xs[k]=ys[k]):decide (xs=ys)=false:=by simp;rintro rfl;exact h rfl
theorem sameR_eq {xs ys:List Rg} (hl:xs.length=ys.length) (h:∀t,(h1:t < xs.length)→(h2:t < ys.length)→xs[t]=ys[t]):decide (xs=ys)=true:=by simp;exact List.ext_getElem hl h
theorem refSame_any (A:Option Addr) (n a:Nat) (B:Option Addr) (m b:Nat) (xs ys:List Rg) (w:World) (hA:Rgs w A xs) (hB:Rgs w B ys) (hn:xs.length=n) (hm:ys.length=m) (hz:n≤1048576) (hz2:m≤1048576) :
  Calls Tryz.prog 84 #[.agg #[.slice A n a],.agg #[.slice B m b]] w (RetBool (decide (xs=ys)) w):=by
 subst hn
 subst hm
 have S1:=Lib.hid (sameR_len (xs:=xs) (ys:=ys))
 have S2:=Lib.hid (fun k h1 h2 h=>sameR_ne (xs:=xs) (ys:=ys) (k:=k) h1 h2 h)
 have S3:=Lib.hid (sameR_eq (xs:=xs) (ys:=ys))
 generalize decide (xs=ys)=R at *
 have B0:Below w.heap.size w ((w.alloc (.cells #[.slice A xs.length a] 26)).alloc (.cells #[.slice B ys.length b] 26)):=((Below.refl _ _).alloc (Nat.le_refl _) _).alloc (by simp) _
 have k0:((w.alloc (.cells #[.slice A xs.length a] 26)).alloc (.cells #[.slice B ys.length b] 26)).cell? ⟨w.heap.size,0,none⟩=some (.slice A xs.length a):=by simp
 have k1:((w.alloc (.cells #[.slice A xs.length a] 26)).alloc (.cells #[.slice B ys.length b] 26)).cell? ⟨w.heap.size+1,0,none⟩=some (.slice B ys.length b):=by simp
 have s0:((w.alloc (.cells #[.slice A xs.length a] 26)).alloc (.cells #[.slice B ys.length b] 26)).heap.size=w.heap.size+2:=by simp
 have W0E:∃W0,((w.alloc (.cells #[.slice A xs.length a] 26)).alloc (.cells #[.slice B ys.length b] 26))=W0:=⟨_,rfl⟩
 have HA:=Lib.hid (hA.below B0)
 have HB:=Lib.hid (hB.below B0)
 clear hA hB
 by_cases hl:xs.length=ys.length
 rotate_left
 ·obtain rfl:=S1.out hl
  have q1:((xs.length:Int) != (ys.length:Int))=true:=by simp;omega
  go_enter Tryz.func84,Tryz.ntmps84
  go_wp2_with fail
  go_ret
  exact ⟨rfl,B0⟩
 have q1:((xs.length:Int) != (ys.length:Int))=false:=by simp;omega
 have HL:=Lib.hid hl
 have hle:xs.length≤ys.length:=by omega
 have S3':=Lib.hid (S3.out hl)
 clear hl S1 S3
 go_enter Tryz.func84,Tryz.ntmps84
 go_wp2_with fail
 obtain ⟨W0,hW0⟩:=W0E
 rw [hW0] at B0 k0 k1 s0 HA HB ⊢
 clear hW0 q1
 have hx0:w.heap.size < W0.heap.size:=by omega
 have hx1:w.heap.size+1 < W0.heap.size:=by omega
 go_loopw [5] (fun u wr=>∃i:Nat,i≤xs.length∧u=.int .i64 i∧(∀t,(h1:t < xs.length)→(h2:t < ys.length)→t < i→xs[t]=ys[t])∧Below W0.heap.size W0 wr) (fun u _=>xs.length - (intOf u).toNat)
 case atStart=>exact ⟨0,Nat.zero_le _,rfl,fun t _ _ h=>by omega,Below.refl _ _⟩
 case round=>
  obtain ⟨i,hi,rfl,hno,hbr⟩:=hrel
  have HNO:=Lib.hid hno
  clear hno
  have f0:=(hbr.cell (p:=⟨w.heap.size,0,none⟩) hx0).trans k0
  have f1:=(hbr.cell (p:=⟨w.heap.size+1,0,none⟩) hx1).trans k1
  by_cases hlt:i < xs.length
  ·have hlt2:i < ys.length:=by omega
   obtain ⟨b1,o1,rfl,hbl,hcell⟩:=(HA.out.below hbr).at hlt
   obtain ⟨c1,c2⟩:=hcell i hlt
   obtain ⟨b2,o2,rfl,hbl2,hcell2⟩:=(HB.out.below hbr).at hlt2
   obtain ⟨d1,d2⟩:=hcell2 i hlt2
   have HY:=Lib.hid (fun h=>S2.out i hlt hlt2 h)
   have HN:=Lib.hid (fun (h:xs[i]=ys[i])=>show ∀t,(h1:t < xs.length)→(h2:t < ys.length)→t < i+1→xs[t]=ys[t] from fun t h1 h2 ht=>by
    by_cases e:t < i
    ·exact HNO.out t h1 h2 e
    ·obtain rfl:t=i:=by omega
     exact h)
   clear hcell hcell2
   generalize xs[i]=x at *
   generalize ys[i]=y at *
   obtain ⟨xl,xh⟩:=x
   obtain ⟨yl,yh⟩:=y
   dsimp only at *
   have i1:(0:Int)≤(i:Int):=by omega
   have i2:(i:Int) < (xs.length:Int):=by omega
   have i3:((i:Int)).toNat=i:=by omega
   have i4:(i:Int) < (ys.length:Int):=by omega
   by_cases he:(⟨xl,xh⟩:Rg)=⟨yl,yh⟩
   ·have HQ:=Lib.hid (HN.out he)
    have NR1:∀W,(binOp .neq 131 (.agg #[.int .i64 xl,.int .i64 xh]) (.agg #[.int .i64 yl,.int .i64 yh])).run Tryz.prog W=.ok (.bool false) W:=fun W=>by rw [neq_rg,he];simp
    clear HY HN he
    go_wp2_with fail
    go_quiet (fail)
    go_wp2_with fail
    go_roundw
    case rel=>exact ⟨i+1,by omega,by go_num,HQ.out,below_drewN hbr _⟩
    case measure=>simp [intOf];omega
   ·obtain rfl:=HY.out he
    have NR1:∀W,(binOp .neq 131 (.agg #[.int .i64 xl,.int .i64 xh]) (.agg #[.int .i64 yl,.int .i64 yh])).run Tryz.prog W=.ok (.bool true) W:=fun W=>by rw [neq_rg,decide_eq_false he];rfl
    clear HY HN he
    go_wp2_with fail
    go_quiet (fail)
    go_wp2_with fail
    go_ret
    exact ⟨rfl,B0.trans ((below_drewN hbr _).mono B0.size)⟩
  ·obtain rfl:=S3'.out (fun t h1 h2=>HNO.out t h1 h2 (by omega))
   go_wp2_with fail
   go_ret
   exact ⟨rfl,B0.trans (hbr.mono B0.size)⟩
theorem canR_len (rs:List Rg):(canR rs).length≤2*rs.length+2:=by
 unfold canR
 have h1:=bld_len (p:=hasR rs) (cs:=cutsL (cutsL [] rs) []) (cutsL (cutsL [] rs) []).length
 have h2:(cutsL (cutsL [] rs) []).length≤(cutsL [] rs).length+2*0+1:=cuts_len [] (cutsL [] rs)
 have h3:(cutsL [] rs).length≤0+2*rs.length+1:=cuts_len rs []
 omega
theorem refSetValid_any (A:Option Addr) (n a:Nat) (rs:List Rg) (w:World) (hA:Rgs w A rs) (hn:rs.length=n) (hz:n≤1000) :
  Calls Tryz.prog 36 #[.agg #[.slice A n a]] w (RetBool (setOk rs) w):=by
 have B0:Below w.heap.size w (w.alloc (.cells #[.slice A n a] 26)):=(Below.refl _ _).alloc (Nat.le_refl _) _
 have k0:(w.alloc (.cells #[.slice A n a] 26)).cell? ⟨w.heap.size,0,none⟩=some (.slice A n a):=by simp
 have s0:(w.alloc (.cells #[.slice A n a] 26)).heap.size=w.heap.size+1:=by simp
 have W0E:∃W0,(w.alloc (.cells #[.slice A n a] 26))=W0:=⟨_,rfl⟩
 have MC:=Lib.hid (fun W (hb:Below w.heap.size w W)=>refMake_any A n a rs W (hA.below hb) hn hz)
 have hl:=canR_len rs
 have SC:=Lib.hid (fun E d W (hb:Below w.heap.size w W) hE=>refSame_any A n a E (canR rs).length d rs (canR rs) W (hA.below hb) hE hn rfl (by omega) (by omega))
 have HS:=Lib.hid (show decide (rs=canR rs)=setOk rs by unfold setOk;rw [Bool.eq_iff_iff];simp;exact eq_comm)
 generalize decide (rs=canR rs)=R1 at *
 generalize setOk rs=R2 at *
 generalize canR rs=cr at *
 clear hA
 go_enter Tryz.func36,Tryz.ntmps36
 go_wp2_with fail
 obtain ⟨W0,hW0⟩:=W0E
 rw [hW0] at B0 k0 s0 ⊢
 clear hW0
 have hx0:w.heap.size < W0.heap.size:=by omega
 have KP:=Lib.hid (show ∀W',Below W0.heap.size W0 W'→W'.cell? ⟨w.heap.size,0,none⟩=some (.slice A n a)∧Below W0.heap.size W0 W' from fun W' hb=>⟨(hb.cell (p:=⟨w.heap.size,0,none⟩) hx0).trans k0,hb⟩)
 have C1:=Lib.hid (fun W (hb:Below W0.heap.size W0 W)=>(MC.out W (B0.trans (hb.mono B0.size))).mono (R':=fun e W'=>∃v,e=.returned v∧(W'.cell? ⟨w.heap.size,0,none⟩=some (.slice A n a)∧Below W0.heap.size W0 W')∧(∃E d,v=.agg #[.slice E cr.length d]∧Rgs W' E cr)) (fun e w' ⟨E,d,he,_,hE,hb'⟩=>⟨_,he,KP.out w' (hb.trans (hb'.mono hb.size)),E,d,rfl,hE⟩))
 have C2:=Lib.hid (fun E d W (hb:Below W0.heap.size W0 W) hE=>(SC.out E d W (B0.trans (hb.mono B0.size)) hE).mono (R':=fun e W'=>e=.returned (.bool R1)∧(W'.cell? ⟨w.heap.size,0,none⟩=some (.slice A n a)∧Below W0.heap.size W0 W')) (fun e w' ⟨he,hb'⟩=>⟨he,KP.out w' (hb.trans (hb'.mono hb.size))⟩))
 refine wp_region_held_drew (S:=fun W'=>W'.cell? ⟨w.heap.size,0,none⟩=some (.slice A n a)∧Below W0.heap.size W0 W') (by kernel_rfl) (KP.out _ (Below.refl _ _).drew) (fun hHeld=>?_)
 refine tK 0 3 ?_
 refine tK 1 4 ?_
 refine tK 2 5 ?_
 refine anyH_callE (i:=3) (some 6) rfl rfl (by kernel_rfl) (by rfl) (by go_simp) (C1.out _ hHeld.2) (fun v W3 hS6 hR6=>?_)
 obtain ⟨E1,d1,rfl,hE1⟩:=hR6
 clear hHeld
 have hHeld:=hS6
 clear hS6
 try simp only [Act.put,List.setIfInBounds_toArray,List.set_cons_zero,List.set_cons_succ]
 refine anyH_call (i:=4) (some 7) rfl rfl (by kernel_rfl) (by rfl) (by go_simp) (C2.out E1 d1 _ hHeld.2 hE1) (fun W4 hS6=>?_)
 clear hHeld hE1
 have hHeld:=hS6
 clear hS6
 try simp only [Act.put,List.setIfInBounds_toArray,List.set_cons_zero,List.set_cons_succ]
 refine tK 5 2 ?_
 refine wpAnyH_done (by kernel_rfl) ?_ _
 go_wp2_with fail
 go_ret
 exact ⟨ret_bool HS.out,B0.trans (hHeld.2.mono B0.size)⟩
theorem len64_any (n:Nat) (h:n≤12) (w:World):Calls Tryz.prog 181 #[.int .u64 n] w (fun e w'=>(∃z:Int,e=.returned (.int .i64 z))∧w=w'):=by
 obtain rfl | rfl | rfl | rfl | rfl | rfl | rfl | rfl | rfl | rfl | rfl | rfl | rfl:n=0∨n=1∨n=2∨n=3∨n=4∨n=5∨n=6∨n=7∨n=8∨n=9∨n=10∨n=11∨n=12:=by omega
 all_goals
  go_enter Tryz.func181,Tryz.ntmps181
  go_wp2
  go_ret
  exact ⟨⟨_,rfl⟩,rfl⟩
end Go.Proofs.YtijgbonhjcblcaaGreatDoor
