import Derived.Test.YtpfbnikbebccjaaGreatDoorT00
import Derived.Test.YtpfbnikbebccjaaGreatDoorT07
import Derived.Deep.RegionLaw
import Derived.Laws.OwnMore
import Derived.Laws.StructEq
set_option maxRecDepth 100000
set_option maxHeartbeats 51200000
namespace Go.Proofs.YtpfbnikbebccjaaGreatDoor
open Option renaming none→N,some→Z
open Value renaming int→I,slice→H
open IntKind renaming i64→J
open Go.Proofs.Tryz
section
open Go.RowKit Go.Maps Go.WideMaps
def nU(l:List Int)(w:World)(e:Ending)(w':World):Prop:=∃E d,e=.returned (H E l.length d)∧l.length≤d∧aA w' E l∧Below w.heap.size w w'
theorem bF.is{l:List Int}{w:World}{e:Ending}{w':World}(h:bF l w e w'):nU l w e w':=by
 obtain⟨A,c,h1,h2,h3⟩:=h;obtain⟨_,_,hv,hc⟩:=gC h2;injection hv with _ _ hv;subst hv;exact⟨A,c,h1,hc,Sl.of_own h2,h3⟩
theorem JV(l:List Int)(r:Rg):(dV l r).length≤l.length+2:=by
 unfold dV;dsimp only;have h1:(if inR 0 1114111 r.lo=true then bJ l r.lo else l).length≤l.length+1:=by
  split
  ·exact pS _ _
  omega
 split
 ·have:=pS (if inR 0 1114111 r.lo=true then bJ l r.lo else l) (r.hi+1);omega
 omega
theorem sH(rs:List Rg)(l:List Int):(rs.foldl dV l).length≤l.length+2*rs.length:=by
 induction rs generalizing l with
 |nil=>simp
 |cons r rs ih=>
  have:=ih (dV l r);have:=JV l r;simp only[List.foldl_cons,List.length_cons];omega
theorem oN(rs:List Rg)(l:List Int):(bH l rs).length≤l.length+2*rs.length+1:=by
 unfold bH;have:=pS (rs.foldl dV l) 0;have:=sH rs l;omega
theorem uK(A:Option Addr)(m a:Nat)(l:List Int)(B:Option Addr)(n b:Nat)(rs:List Rg)(w:World)(hA:aA w A l)(hm:l.length=m)(hB:Rgs w B rs)(hn:rs.length=n)(hmz:m≤100000)(hnz:n≤100000):
  Calls prog 163 #[H A m a,.agg #[H B n b]] w (nU (bH l rs) w):=by
 subst hm;subst hn;have B0:Below w.heap.size w (w.alloc (.cells #[H B rs.length b] 26)):=ba _ _;have k0:(w.alloc (.cells #[H B rs.length b] 26)).cell? ⟨w.heap.size,0,N⟩=Z (H B rs.length b):=by simp
 have s0:(w.alloc (.cells #[H B rs.length b] 26)).heap.size=w.heap.size+1:=by simp
 have W0E:∃W0,(w.alloc (.cells #[H B rs.length b] 26))=W0:=⟨_,rfl⟩;have HA:=G hA;have HB:=G hB;have ER:=U (bH l rs=bJ (rs.foldl dV l) 0) rfl;clear hA hB;generalize bH l rs=R at *;go_enter func163,ntmps163;go_wp2_with fail;obtain⟨W0,hW0⟩:=W0E;rw[hW0]at B0 k0 s0⊢;clear hW0;have hx0:w.heap.size<W0.heap.size:=by omega
 have HA0:=G (HA.out.below B0);clear HA;go_loopw [0,5] (fun v u wr=>∃(i:Nat)(S:Option Addr)(c:Nat),i≤rs.length∧u=I J i∧v=H S ((rs.take i).foldl dV l).length c∧aA wr S ((rs.take i).foldl dV l)∧Below W0.heap.size W0 wr) (fun _ u _=>rs.length-(intOf u).toNat)
 case atStart=>exact⟨0,A,a,Nat.zero_le _,rfl,rfl,HA0.out,Below.refl _ _⟩
 obtain⟨i,S,c,hi,rfl,rfl,hS,hbr⟩:=hrel;have HS:=G hS;clear hS HA0;have f0:=(hbr.cell (p:=⟨w.heap.size,0,N⟩) hx0).trans k0;have hbw:=B0.trans (hbr.mono B0.size);have hx1:w.heap.size<wr.heap.size:=by have:=hbr.size;omega
 by_cases hlt:i<rs.length
 ·obtain⟨b1,o1,rfl,hbl,hcell⟩:=(HB.out.below hbw).at hlt
  obtain⟨c1,c2⟩:=hcell i hlt;have HT:=G (JW (l:=l) hlt);have hfl:=sH (rs.take i) l;have hfl2:(rs.take i).length≤i:=List.length_take_le _ _;have PC:=G (fun(A':Option Addr) (a':Nat) (l':List Int) (x:Int) W (hA':aA W A' l') (hz:l'.length≤1048576)=>(zZ A' l'.length a' l' x W hA' rfl hz).mono (R':=nU (bJ l' x) W) (fun _ _ h=>h.is));have HC1:=U (dV ((rs.take i).foldl dV l) rs[i]=if 0≤rs[i].hi∧rs[i].hi<1114111 then bJ (if inR 0 1114111 rs[i].lo=true then bJ ((rs.take i).foldl dV l) rs[i].lo else(rs.take i).foldl dV l) (rs[i].hi+1)else(if inR 0 1114111 rs[i].lo=true then bJ ((rs.take i).foldl dV l) rs[i].lo else(rs.take i).foldl dV l)) rfl;clear hcell;generalize (rs.take i).foldl dV l=F at *;generalize rs[i]=ri at *;obtain⟨rlo,rhi⟩:=ri;dsimp only at *;have hfz:F.length≤1048000:=by omega
  have hpz:∀x,(bJ F x).length≤1048001:=fun x=>by have:=pS F x;omega
  have HPZ:=G hpz;have i1:(0:Int)≤(i:Int):=by omega
  have i2:(i:Int)<(rs.length:Int):=by omega
  have i3:((i:Int)).toNat=i:=by omega
  clear hpz hfl hfl2;go_wp2_with fail;go_quiet(fail);clear i1 i2 i3;have hbq:=bK hbr nq;have HSQ:=G (Sl.drewN HS.out nq);clear f0 c1 c2 HS;generalize wr.drewN nq=Wq at *;cases hv:inR 0 1114111 rlo with
  |true=>
   have P1:=G (PC.out S c F rlo Wq HSQ.out (by omega));rw[hv]at HC1;go_wp2_with(go_at_call 97;refine(fT rlo _).mono ?_;rw[hv];rintro e w' ⟨rfl,rfl⟩);with_reducible refine P1.out.mono ?_
   rintro e W2 ⟨E,d,rfl,hd,hE,hb2⟩;have HE:=G hE;have hb3:=hbq.trans (hb2.mono hbq.size);have hz2:=HPZ.out rlo;clear P1 hE HSQ;by_cases g1:0≤rhi
   ·have q1:decide (0≤rhi)=true:=by simpa using g1
    by_cases g2:rhi<1114111
    ·have q2:decide (rhi<1114111)=true:=by simpa using g2
     have hc:=HC1.out;simp[g1,g2]at hc;have HC2:=G hc;have P2:=G (PC.out E d (bJ F rlo) (rhi+1) W2 HE.out (by omega));clear HC1 PC hc;go_wp2_with fail;with_reducible refine P2.out.mono ?_
     rintro e W4 ⟨E2,d2,rfl,hd2,hE2,hb4⟩;have HE2:=G hE2;clear P2 hE2;go_wp2_with fail;go_roundw
     case rel=>exact⟨i+1,E2,d2,by omega,by go_num,by rw[HT.out,HC2.out],by rw[HT.out,HC2.out];exact HE2.out,hb3.trans (hb4.mono hb3.size)⟩
     simp[intOf];omega
    have q2:decide (rhi<1114111)=false:=by simpa using g2
    have hc:=HC1.out;simp[g2]at hc;have HC2:=G hc;clear HC1 PC hc;go_wp2_with fail;go_roundw
    case rel=>exact⟨i+1,E,d,by omega,by go_num,by rw[HT.out,HC2.out],by rw[HT.out,HC2.out];exact HE.out,hb3⟩
    simp[intOf];omega
   have q1:decide (0≤rhi)=false:=by simpa using g1
   have hc:=HC1.out;simp[g1]at hc;have HC2:=G hc;clear HC1 PC hc;go_wp2_with fail;go_roundw
   case rel=>exact⟨i+1,E,d,by omega,by go_num,by rw[HT.out,HC2.out],by rw[HT.out,HC2.out];exact HE.out,hb3⟩
   simp[intOf];omega
  |false=>
   rw[hv]at HC1;by_cases g1:0≤rhi
   ·have q1:decide (0≤rhi)=true:=by simpa using g1
    by_cases g2:rhi<1114111
    ·have q2:decide (rhi<1114111)=true:=by simpa using g2
     have hc:=HC1.out;simp[g1,g2]at hc;have HC2:=G hc;have P2:=G (PC.out S c F (rhi+1) Wq HSQ.out (by omega));clear HC1 PC hc;go_wp2_with(go_at_call 97;refine(fT rlo _).mono ?_;rw[hv];rintro e w' ⟨rfl,rfl⟩);with_reducible refine P2.out.mono ?_
     rintro e W4 ⟨E2,d2,rfl,hd2,hE2,hb4⟩;have HE2:=G hE2;clear P2 hE2;go_wp2_with fail;go_roundw
     case rel=>exact⟨i+1,E2,d2,by omega,by go_num,by rw[HT.out,HC2.out],by rw[HT.out,HC2.out];exact HE2.out,hbq.trans (hb4.mono hbq.size)⟩
     simp[intOf];omega
    have q2:decide (rhi<1114111)=false:=by simpa using g2
    have hc:=HC1.out;simp[g2]at hc;have HC2:=G hc;clear HC1 PC hc;go_wp2_with(go_at_call 97;refine(fT rlo _).mono ?_;rw[hv];rintro e w' ⟨rfl,rfl⟩);go_roundw
    case rel=>exact⟨i+1,S,c,by omega,by go_num,by rw[HT.out,HC2.out],by rw[HT.out,HC2.out];exact HSQ.out,hbq⟩
    simp[intOf];omega
   have q1:decide (0≤rhi)=false:=by simpa using g1
   have hc:=HC1.out;simp[g1]at hc;have HC2:=G hc;clear HC1 PC hc;go_wp2_with(go_at_call 97;refine(fT rlo _).mono ?_;rw[hv];rintro e w' ⟨rfl,rfl⟩);go_roundw
   case rel=>exact⟨i+1,S,c,by omega,by go_num,by rw[HT.out,HC2.out],by rw[HT.out,HC2.out];exact HSQ.out,hbq⟩
   simp[intOf];omega
 have hfl:=sH (rs.take i) l;have hfl2:(rs.take i).length≤i:=List.length_take_le _ _;have PC:=G ((zZ S ((rs.take i).foldl dV l).length c ((rs.take i).foldl dV l) 0 wr HS.out rfl (by omega)).mono (R':=nU (bJ ((rs.take i).foldl dV l) 0) wr) (fun _ _ h=>h.is));rw[List.take_of_length_le (show rs.length≤i by omega)]at PC⊢;rw[←ER.out]at PC;clear ER hfl hfl2;go_wp2_with fail;with_reducible refine PC.out.mono ?_
 rintro e W4 ⟨E2,d2,rfl,hd2,hE2,hb4⟩;have HE2:=G hE2;clear PC hE2;go_wp2_with fail;go_ret;exact⟨E2,d2,rfl,hd2,HE2.out,hbw.trans (hb4.mono hbw.size)⟩
theorem nB{cs:List Int}{i:Nat}(h:i<cs.length):nxt cs i=cs[i]:=by unfold nxt;rw[List.getElem?_eq_getElem h];rfl
theorem zG{cs:List Int}{i:Nat}(h:¬i<cs.length):nxt cs i=1114112:=by unfold nxt;rw[List.getElem?_eq_none (by omega)];rfl
section
variable {p:Int→Bool}{cs:List Int}{i:Nat}
theorem GW(h:p (nxt cs i)=false):bld p cs (i+1)=((bld p cs i).1,false):=by simp[bld,h]
theorem GV(h:p (nxt cs i)=true)(h2:(bld p cs i).2=false):bld p cs (i+1)=((bld p cs i).1++[⟨nxt cs i,nxt cs (i+1)-1⟩],true):=by simp[bld,h,h2]
theorem GX(h:p (nxt cs i)=true)(h2:(bld p cs i).2=true):bld p cs (i+1)=(eY (bld p cs i).1 (nxt cs (i+1)-1),true):=by simp[bld,h,h2]
theorem rO:∀i,(bld p cs i).1.length≤i
 |0=>Nat.le_refl _
 |i+1=>by
  have ih:=rO i;simp only[bld];split
  ·dsimp only
   split
   ·rw[xM];omega
   rw[List.length_append];simp;omega
  dsimp only;omega
end
theorem GY{rs:List Rg}{cs:List Int}(h:Ct rs cs)(h0:0∈cs){i:Nat}(hi:i<cs.length)(h2:(bld (bA rs) cs i).2=true):
  ∃k x,(bld (bA rs) cs i).1.length=k+1∧(bld (bA rs) cs i).1[k]?=Z x∧eY (bld (bA rs) cs i).1 (nxt cs (i+1)-1)=(bld (bA rs) cs i).1.set k ⟨x.lo,nxt cs (i+1)-1⟩:=by
 have hb:=rP h h0 i (by omega);obtain⟨x,hx,hxh⟩:=hb.yes h2;have hne:(bld (bA rs) cs i).1≠[]:=by intro e;rw[e]at hx;cases hx
 have hlt:nxt cs i≤nxt cs (i+1):=by
  rcases Nat.lt_or_ge (i+1) cs.length with g|g
  ·have:=List.pairwise_iff_getElem.1 h.asc i (i+1) (by omega) g (by omega)
   rw[nB hi,nB g];omega
  rw[nB hi,zG (by omega)];have:=h.bd _ (List.getElem_mem hi);omega
 obtain⟨k,hk⟩:∃k,(bld (bA rs) cs i).1.length=k+1:=⟨(bld (bA rs) cs i).1.length-1,by have:=List.length_pos_iff.2 hne;omega⟩;have hxk:(bld (bA rs) cs i).1[k]?=Z x:=by
  rw[List.getLast?_eq_getElem?,hk]at hx;simpa using hx
 refine⟨k,x,hk,hxk,?_⟩;rw[o_ hk];have e:(bld (bA rs) cs i).1[k]'(by omega)=x:=(List.getElem?_eq_some_iff.1 hxk).2;rw[e];congr 2;omega
theorem sG(d:List Rg)(i:Nat)(h:Int){x:Rg}(hx:d[i]?=Z x):(aI Rg.cells d).set (i*2+1) (I J h)=aI Rg.cells (d.set i ⟨x.lo,h⟩):=by
 induction d generalizing i with
 |nil=>simp at hx
 |cons y r ih=>
  cases i with
  |zero=>simp at hx;subst hx;simp[aI,Rg.cells]
  |succ i=>
   have h1:=ih i (by simpa using hx);simp only[aI,List.flatMap_cons,Rg.cells,List.cons_append,List.nil_append,List.set_cons_succ]at *;rw[show(i+1)*2=i*2+1+1 by omega];simp only[List.set_cons_succ,h1]
theorem mX:(prog.info? 126).map (fun i=>(i.zero,i.size,i.bytes))=Z (Z (.agg #[I J 0,I J 0]),2,16):=by kernel_rfl
theorem nD(r:Rg):∀u∈Rg.cells r,u.oneCell'=true:=by
 intro u hu;simp only[Rg.cells,List.mem_cons,List.not_mem_nil,or_false]at hu;rcases hu with rfl|rfl<;>rfl
theorem mI{w:World}{base:Nat}{e:TypeId}{size n c:Nat}{A:Option Addr}{xs:List Value}(h:w.ownsRow base e size (H A n c) n xs):n≤c:=by
 obtain⟨_,_,hv,hc⟩:=gC h;injection hv with _ _ hv;subst hv;exact hc
theorem pR{w:World}{base:Nat}{e:TypeId}{size n:Nat}{v:Value}{xs:List Value}(h:w.ownsRow base e size v n xs){p:Addr}(hp:p.block<base)(u:Value):(w.setCell p u).ownsRow base e size v n xs:=
 h.kept (eA w p u) (by
  cases hv:v.ownBlock with
  |none=>exact .inl rfl
  |some q=>
   right
   have:=(h.lt q hv).1
   intro e
   injection e with e
   omega)
theorem VZ(tmps:Array Value)(w:World){b:Nat}{v0:Value}(ha:tmps.getD 6 undef=.pointer (Z ⟨b,0,N⟩))(c0:w.cell? ⟨b,0,N⟩=Z v0):
  (results f141 tmps).run prog w=.ok (.agg #[v0]) w:=by
 have hr:f141.results=#[.cell 6 26]:=rfl;unfold results;rw[hr];simp only[ha,List.mapM_toArray,List.mapM_cons,List.mapM_nil,asAddr];go_simp
def rD(rs:List Rg)(w:World)(e:Ending)(w':World):Prop:=∃E d,e=.returned (.agg #[H E rs.length d])∧rs.length≤d∧Rgs w' E rs∧Below w.heap.size w w'
theorem JP(A:Option Addr)(n a:Nat)(rs:List Rg)(w:World)(hA:Rgs w A rs)(hn:rs.length=n)(hz:n≤1000):
  Calls prog 141 #[.agg #[H A n a],.agg #[H N 0 0],I J 1] w (rD (eO rs) w):=by
 have B0:Below w.heap.size w (((w.alloc (.cells #[H A n a] 26)).alloc (.cells #[H N 0 0] 26)).alloc (.cells #[H N 0 0] 26)):=((ba _ _).alloc (by simp) _).alloc (by simp;omega) _;have k0:(((w.alloc (.cells #[H A n a] 26)).alloc (.cells #[H N 0 0] 26)).alloc (.cells #[H N 0 0] 26)).cell? ⟨w.heap.size,0,N⟩=Z (H A n a):=by go_simp
 have k1:(((w.alloc (.cells #[H A n a] 26)).alloc (.cells #[H N 0 0] 26)).alloc (.cells #[H N 0 0] 26)).cell? ⟨w.heap.size+1,0,N⟩=Z (H N 0 0):=by go_simp
 have X0:Box (((w.alloc (.cells #[H A n a] 26)).alloc (.cells #[H N 0 0] 26)).alloc (.cells #[H N 0 0] 26)) (w.heap.size+2) 26 [H N 0 0]:=Box.new _ _ _ (by simp);have s0:(((w.alloc (.cells #[H A n a] 26)).alloc (.cells #[H N 0 0] 26)).alloc (.cells #[H N 0 0] 26)).heap.size=w.heap.size+3:=by simp
 have W0E:∃W0,(((w.alloc (.cells #[H A n a] 26)).alloc (.cells #[H N 0 0] 26)).alloc (.cells #[H N 0 0] 26))=W0:=⟨_,rfl⟩;have h1:=(Ct.nil).cuts (rs:=rs);have h2:=h1.1.cuts (rs:=[]);rw[List.append_nil,List.nil_append]at h2;have HCT:=G h2;have CU1:=G (fun W(hb:Below w.heap.size w W)=>uK N 0 0 [] A n a rs W (Sl.nil _ _) rfl (hA.below hb) hn (by omega) (by omega));have hcl:(bH [] rs).length≤2001:=by have:_≤0+2*rs.length+1:=oN rs [];omega
 have CU2:=G (fun(E:Option Addr) d W hE=>uK E (bH [] rs).length d (bH [] rs) N 0 0 [] W hE rfl (Sl.nil _ _) rfl (by omega) (by omega));have hcl2:(bH (bH [] rs) []).length≤2002:=by have:(bH (bH [] rs) []).length≤(bH [] rs).length+2*0+1:=oN [] (bH [] rs);omega
 have HR:=U (eO rs=(bld (bA rs) (bH (bH [] rs) []) (bH (bH [] rs) []).length).1) rfl;have HAS:=G (fun x W(hb:Below w.heap.size w W)=>AH A n a rs x W (hA.below hb) hn (by omega));have HAN:=G (fun x W=>AH N 0 0 [] x W (Sl.nil _ _) rfl (by omega));have HN0:=G (fun x=>show bA [] x=false by simp[bA]);generalize eO rs=R at *;generalize bH [] rs=L1 at *;generalize bH L1 []=cs at *;clear h1 h2 hA;go_enter func141,ntmps141;go_wp2_with fail;obtain⟨W0,hW0⟩:=W0E;rw[hW0]at B0 k0 k1 X0 s0⊢;clear hW0;have hx0:w.heap.size<W0.heap.size:=by omega
 have hx1:w.heap.size+1<W0.heap.size:=by omega
 have hx2:w.heap.size+2<W0.heap.size:=by omega
 have KP:=U (∀W',Below W0.heap.size W0 W'→(W'.cell? ⟨w.heap.size,0,N⟩=Z (H A n a)∧W'.cell? ⟨w.heap.size+1,0,N⟩=Z (H N 0 0))∧Below W0.heap.size W0 W') (fun W' hb=>⟨⟨(hb.cell (p:=⟨w.heap.size,0,N⟩) hx0).trans k0,(hb.cell (p:=⟨w.heap.size+1,0,N⟩) hx1).trans k1⟩,hb⟩);have C1:=G (fun W(hb:Below W0.heap.size W0 W)=>(CU1.out W (B0.trans (hb.mono B0.size))).mono (R':=fun e W'=>∃v,e=.returned v∧((W'.cell? ⟨w.heap.size,0,N⟩=Z (H A n a)∧W'.cell? ⟨w.heap.size+1,0,N⟩=Z (H N 0 0))∧Below W0.heap.size W0 W')∧(∃E d,v=H E L1.length d∧aA W' E L1)) (fun e w'⟨E,d,he,_,hE,hb'⟩=>⟨_,he,KP.out w' (hb.trans (hb'.mono hb.size)),E,d,rfl,hE⟩));have C2:=G (fun(E:Option Addr) d W (hb:Below W0.heap.size W0 W) hE=>(CU2.out E d W hE).mono (R':=fun e W'=>∃v,e=.returned v∧((W'.cell? ⟨w.heap.size,0,N⟩=Z (H A n a)∧W'.cell? ⟨w.heap.size+1,0,N⟩=Z (H N 0 0))∧Below W0.heap.size W0 W')∧(∃E d,v=H E cs.length d∧aA W' E cs)) (fun e w'⟨E,d,he,_,hE,hb'⟩=>⟨_,he,KP.out w' (hb.trans (hb'.mono hb.size)),E,d,rfl,hE⟩));refine wp_region_held_drew (S:=fun W'=>(W'.cell? ⟨w.heap.size,0,N⟩=Z (H A n a)∧W'.cell? ⟨w.heap.size+1,0,N⟩=Z (H N 0 0))∧Below W0.heap.size W0 W') (by kernel_rfl) (KP.out _ (Below.refl _ _).drew) (fun hHeld=>?_);refine tK 0 13 ?_;refine tK 2 15 ?_;refine oE (i:=1) (Z 14) rfl rfl (by kernel_rfl) (by rfl) (by go_simp) (C1.out _ hHeld.2) (fun v W3 hS6 hR6=>?_);obtain⟨E1,d1,rfl,hE1⟩:=hR6;clear hHeld;have hHeld:=hS6;clear hS6;try simp only[Act.put,sA,sB,sC]
 refine oE (i:=3) (Z 16) rfl rfl (by kernel_rfl) (by rfl) (by go_simp) (C2.out E1 d1 W3 hHeld.2 hE1) (fun v W4 hS6 hR6=>?_);obtain⟨E2,d2,rfl,hE2⟩:=hR6;clear hHeld;have hHeld:=hS6;clear hS6;try simp only[Act.put,sA,sB,sC]
 refine tK 4 7 ?_;refine wpAnyH_done (by kernel_rfl) ?_ _;have hb4:=hHeld.2;have HE2:=G hE2;clear hHeld hE1 hE2 C1 C2 CU1 CU2;have hx4:w.heap.size+2<W4.heap.size:=by have:=hb4.size;omega
 have B5:Below W4.heap.size W4 (W4.alloc (.cells #[H N 0 0] 26)):=ba _ _;have X5:Box (W4.alloc (.cells #[H N 0 0] 26)) W4.heap.size 26 [H N 0 0]:=Box.new _ _ _ rfl;have s5:(W4.alloc (.cells #[H N 0 0] 26)).heap.size=W4.heap.size+1:=by simp
 have W5E:∃W5,W4.alloc (.cells #[H N 0 0] 26)=W5:=⟨_,rfl⟩;go_wp2_with fail;obtain⟨W5,hW5⟩:=W5E;rw[hW5]at B5 X5 s5⊢;clear hW5;have HX5:=G X5;have HNIL:=U (W5.ownsRow W5.heap.size 126 2 (H N 0 0) 0 ([]:List Value)) (World.ownsRow_nil _ _ _ _);clear X5;go_loopw [9,10] (fun v u wr=>∃(i:Nat)(S:Option Addr)(k:Nat),i≤cs.length∧u=I J i∧v=.bool (bld (bA rs) cs i).2∧Box wr W4.heap.size 26 [H S (bld (bA rs) cs i).1.length k]∧wr.ownsRow W5.heap.size 126 2 (H S (bld (bA rs) cs i).1.length k) (bld (bA rs) cs i).1.length (aI Rg.cells (bld (bA rs) cs i).1)∧Below W4.heap.size W4 wr∧W5.heap.size≤wr.heap.size) (fun _ u _=>cs.length-(intOf u).toNat)
 case atStart=>exact⟨0,N,0,Nat.zero_le _,rfl,rfl,HX5.out,HNIL.out,B5,Nat.le_refl _⟩
 obtain⟨i,S,k,hi,rfl,rfl,hX,hown,hbr,hsr⟩:=hrel;have HX:=G hX;have HOWN:=G hown;clear hX hown HX5 HNIL;have hb6:=hb4.trans (hbr.mono hb4.size);have hbw:=B0.trans (hb6.mono B0.size);have hbl0:=rO (p:=bA rs) (cs:=cs) i;by_cases hlt:i<cs.length
 ·obtain⟨b1,o1,rfl,hci⟩:=(HE2.out.below hbr).at hlt
  have cx:=hci i hlt;have hbl:=World.block_lt_of_cell? wr _ cx;have hbx:=HCT.out.1.bd _ (List.getElem_mem hlt);have NX:=G (nB hlt);have BN:=G (GW (p:=bA rs) (cs:=cs) (i:=i));have BW:=G (GV (p:=bA rs) (cs:=cs) (i:=i));have BO:=G (GX (p:=bA rs) (cs:=cs) (i:=i));have BS:=G (fun h=>GY HCT.out.1 HCT.out.2 hlt h);have HHI:=U (∃hv:Int,nxt cs (i+1)-1=hv∧(∀h:i+1<cs.length,wr.cell? ⟨b1,o1+(i+1),N⟩=Z (I J (hv+1))∧-1≤hv∧hv≤1114111)∧(¬i+1<cs.length→hv=1114111)) (⟨_,rfl,fun h=>by rw[nB h];have:=HCT.out.1.bd _ (List.getElem_mem h);refine⟨?_,by omega,by omega⟩;rw[show cs[i+1]-1+1=cs[i+1] by omega];exact hci (i+1) h,fun h=>by rw[zG h];rfl⟩);obtain⟨hv,HV0,HV1,HV2⟩:=HHI.out;have HVV:=G HV0;have HV1':=G HV1;have HV2':=G HV2;clear hci HHI HV0 HV1 HV2;rw[NX.out,HVV.out]at BW;rw[NX.out]at BN BO;rw[HVV.out]at BO BS;generalize cs[i]=x at *;have i1:(0:Int)≤(i:Int):=by omega
  have i2:(i:Int)<(cs.length:Int):=by omega
  have i3:((i:Int)).toNat=i:=by omega
  have KS:=U (∀W',Below wr.heap.size wr W'→(W'.cell? ⟨w.heap.size,0,N⟩=Z (H A n a)∧W'.cell? ⟨w.heap.size+1,0,N⟩=Z (H N 0 0)∧W'.cell? ⟨b1,o1+i,N⟩=Z (I J x))∧Below wr.heap.size wr W') (fun W' hb=>by
   obtain⟨⟨a1,a2⟩,_⟩:=KP.out W' (hb6.trans (hb.mono hb6.size))
   exact⟨⟨a1,a2,(hb.cell (p:=⟨b1,o1+i,N⟩) hbl).trans cx⟩,hb⟩)
  have H1:=G (fun W(hb:Below wr.heap.size wr W)=>(HAS.out x W (hbw.trans (hb.mono hbw.size))).mono (R':=fun e W'=>e=.returned (.bool (bA rs x))∧((W'.cell? ⟨w.heap.size,0,N⟩=Z (H A n a)∧W'.cell? ⟨w.heap.size+1,0,N⟩=Z (H N 0 0)∧W'.cell? ⟨b1,o1+i,N⟩=Z (I J x))∧Below wr.heap.size wr W')) (fun e w'⟨he,hb'⟩=>⟨he,KS.out w' (hb.trans (hb'.mono hb.size))⟩));have H2:=G (fun W(hb:Below wr.heap.size wr W)=>(HAN.out x W).mono (R':=fun e W'=>e=.returned (.bool false)∧((W'.cell? ⟨w.heap.size,0,N⟩=Z (H A n a)∧W'.cell? ⟨w.heap.size+1,0,N⟩=Z (H N 0 0)∧W'.cell? ⟨b1,o1+i,N⟩=Z (I J x))∧Below wr.heap.size wr W')) (fun e w'⟨he,hb'⟩=>⟨by rw[he,HN0.out],KS.out w' (hb.trans (hb'.mono hb.size))⟩));have H3:=G (fun y W(hS:(W.cell? ⟨w.heap.size,0,N⟩=Z (H A n a)∧W.cell? ⟨w.heap.size+1,0,N⟩=Z (H N 0 0)∧W.cell? ⟨b1,o1+i,N⟩=Z (I J x))∧Below wr.heap.size wr W)=>(OI y false W).mono (R':=fun e W'=>e=.returned (.bool (y||false))∧((W'.cell? ⟨w.heap.size,0,N⟩=Z (H A n a)∧W'.cell? ⟨w.heap.size+1,0,N⟩=Z (H N 0 0)∧W'.cell? ⟨b1,o1+i,N⟩=Z (I J x))∧Below wr.heap.size wr W')) (fun e w'⟨he,hw⟩=>⟨he,by subst hw;exact hS⟩));generalize bA rs x=inx at *;generalize hB0:bld (bA rs) cs i=bi at *;obtain⟨out,op⟩:=bi;dsimp only at *;clear hB0;by_cases hl1:i+1<cs.length
  ·obtain⟨cy,hv1,hv2⟩:=HV1'.out hl1
   have ch:=hv1;clear HV1' HV2' HVV;have q1:decide (i+1<cs.length)=true:=by simpa using hl1
   go_wp2_with fail;clear cy;refine wp_region_held_drew (S:=fun W'=>(W'.cell? ⟨w.heap.size,0,N⟩=Z (H A n a)∧W'.cell? ⟨w.heap.size+1,0,N⟩=Z (H N 0 0)∧W'.cell? ⟨b1,o1+i,N⟩=Z (I J x))∧Below wr.heap.size wr W') (by kernel_rfl) (KS.out _ (Below.refl _ _).drew) (fun hHeld=>?_);refine tK 0 34 ?_;refine tK 1 35 ?_;refine tK 2 36 ?_;refine tK 3 37 ?_;refine tK 4 38 ?_;refine tK 5 39 ?_;refine tK 7 41 ?_;refine tK 8 42 ?_;refine tK 9 43 ?_;refine tK 10 44 ?_;refine tK 11 45 ?_;refine qK 6 40 (H1.out _ hHeld.2) ?_;clear hHeld;intro W6 hHeld;refine qK 12 46 (H2.out _ hHeld.2) ?_;clear hHeld;intro W7 hHeld;refine qK 13 47 (H3.out inx _ hHeld) ?_;clear hHeld;intro W8 hHeld;refine tK 14 12 ?_;refine wpAnyH_done (by kernel_rfl) ?_ _;have Bp:=hHeld.2;have cx8:=hHeld.1.2.2;have hb8:=hbr.trans (Bp.mono hbr.size);have hs8:=Bp.size;have X8:=HX.out.below Bp HX.out.lt;have O8:=aN HOWN.out Bp;have hO:=HX.out.lt;clear hHeld H1 H2 H3 KS cx HX HOWN;cases inx with
   |false=>
    have HQ:=G (BN.out rfl);have HX8:=G X8;have HO8:=G O8;clear BN BW BO BS X8 O8 i1 i2 i3 cx8;go_wp2_with fail;go_roundw
    case rel=>exact⟨i+1,S,k,by omega,by go_num,by rw[HQ.out],by rw[HQ.out];exact HX8.out,by rw[HQ.out];exact HO8.out,hb8,by omega⟩
    simp[intOf];omega
   |true=>
    cases op with
    |true=>
     have HQ:=G (BO.out rfl rfl);obtain⟨j,y,hj,hy,hgr⟩:=BS.out rfl
     obtain⟨g,hS⟩:∃g,S=Z ⟨g,0,N⟩:=by
      rcases O8.2 with⟨_,h0⟩|⟨g,cap,cur,hv',_⟩
      ·omega
      injection hv' with hA' _ _;exact⟨g,hA'⟩
     subst hS;have gO:W5.heap.size≤g:=(O8.lt g rfl).1;have gne:¬g=W4.heap.size:=by omega
     have st:=World.ownsRow.stored O8 (j*2+1) (I J hv);rw[sG out j hv hy]at st;have y1:W8.cell? ⟨g,j*2+1,N⟩=Z (I J y.hi):=by
      rw[World.ownsRow.cellAt O8 (j*2+1) (by omega),kG Rg.cells 2 (fun _=>rfl) out j 1 (by omega) (by omega),(List.getElem?_eq_some_iff.1 hy).2];rfl
     have f1:=World.ownsRow.frozenAt O8 (j*2+1);have c8:=X8.cell (i:=0) rfl;have HXS:=G (X8.grown st.2 (by simpa using fun e=>gne e.symm));have HST:=G st.1;have hbs:=hb8.setCell (p:=⟨g,j*2+1,N⟩) (by show W4.heap.size≤g;omega) (I J hv);have HG:=G hgr;have HL:=G hj;clear BN BW BO BS X8 O8 st hgr hy cx8;rw[HL.out]at c8;have j1:IntKind.i64.wrap (((j+1:Nat):Int)-1)=(j:Int):=by rw[IntWalk.i64_in _ (by omega)];omega
     go_wp2_with fail;go_roundw
     case rel=>exact⟨i+1,Z ⟨g,0,N⟩,k,by omega,by go_num,by rw[HQ.out],by rw[HQ.out];dsimp only;rw[HG.out,List.length_set];exact HXS.out,by rw[HQ.out];dsimp only;rw[HG.out,List.length_set];exact HST.out,hbs,by simp;omega⟩
     simp[intOf];omega
    |false=>
     have HQ:=G (BW.out rfl rfl);have c8:=X8.cell (i:=0) rfl;have Bq:Below W8.heap.size W8 (W8.alloc (.cells #[I J x,I J hv] 126)).drew:=(ba _ _).drew;have HA1:=G (aN O8 Bq);have HA2:Hid (Sl (W8.alloc (.cells #[I J x,I J hv] 126)).drew (Z ⟨W8.heap.size,0,N⟩) (Rg.cells ⟨x,hv⟩)):=G (cK W8 (Rg.cells ⟨x,hv⟩) 126 rfl);have HXA:=G (X8.below Bq (by omega));have hbq:=hb8.trans (Bq.mono hb8.size);have szp:W5.heap.size≤(W8.alloc (.cells #[I J x,I J hv] 126)).drew.heap.size:=Nat.le_trans (by omega:W5.heap.size≤W8.heap.size) Bq.size;have h45:W4.heap.size≤W5.heap.size:=by omega
     have h46:W4.heap.size<W5.heap.size:=by omega
     have hOc:W4.heap.size<W8.heap.size:=by omega
     have hbb1:b1<W8.heap.size:=by have:b1<_:=hbl;omega
     clear BN BW BO BS X8 O8 Bq;go_wp2_with fail;go_region_law (refine BZ rfl (.tmp 67) (.tmp 74) 24 126 (.agg #[I J 0,I J 0]) 2 16 rfl underlying24 mX rfl (by decide) (by decide) rfl HA1.out rfl HA2.out rfl (nD _) (by omega) szp ?_;intro A9 c9 w9 hown9 hc9 hb9 hgr9 _;have X9:=HXA.out.below hb9 h46;have o9:=X9.cell (i:=0) rfl;have f9:=X9.free 0;have HX9:=G X9;have HO9:=G hown9;have hbz:=hbq.trans (hb9.mono h45);have sz9:=hbz.size;clear X9 hown9)
     all_goals
      go_wp2_with fail;go_roundw
      case rel=>
       refine⟨i+1,A9,c9,by omega,by go_num,by rw[HQ.out],?_,?_,?_,?_⟩
       ·rw[HQ.out];dsimp only;rw[List.length_append];exact HX9.out.set 0 _
       ·rw[HQ.out];dsimp only;rw[List.length_append,kF];exact pR HO9.out (p:=⟨W4.heap.size,0,N⟩) h46 _
       ·exact hbz.setCell (p:=⟨W4.heap.size,0,N⟩) (Nat.le_refl _) _
       have:=hb9.size;simp at this⊢;omega
      simp[intOf];omega
  have ev:=HV2'.out hl1;subst ev;clear HV1' HV2' HVV;have q1:decide (i+1<cs.length)=false:=by simpa using hl1
  go_wp2_with fail;refine wp_region_held_drew (S:=fun W'=>(W'.cell? ⟨w.heap.size,0,N⟩=Z (H A n a)∧W'.cell? ⟨w.heap.size+1,0,N⟩=Z (H N 0 0)∧W'.cell? ⟨b1,o1+i,N⟩=Z (I J x))∧Below wr.heap.size wr W') (by kernel_rfl) (KS.out _ (Below.refl _ _).drew) (fun hHeld=>?_);refine tK 0 34 ?_;refine tK 1 35 ?_;refine tK 2 36 ?_;refine tK 3 37 ?_;refine tK 4 38 ?_;refine tK 5 39 ?_;refine tK 7 41 ?_;refine tK 8 42 ?_;refine tK 9 43 ?_;refine tK 10 44 ?_;refine tK 11 45 ?_;refine qK 6 40 (H1.out _ hHeld.2) ?_;clear hHeld;intro W6 hHeld;refine qK 12 46 (H2.out _ hHeld.2) ?_;clear hHeld;intro W7 hHeld;refine qK 13 47 (H3.out inx _ hHeld) ?_;clear hHeld;intro W8 hHeld;refine tK 14 12 ?_;refine wpAnyH_done (by kernel_rfl) ?_ _;have Bp:=hHeld.2;have cx8:=hHeld.1.2.2;have hb8:=hbr.trans (Bp.mono hbr.size);have hs8:=Bp.size;have X8:=HX.out.below Bp HX.out.lt;have O8:=aN HOWN.out Bp;have hO:=HX.out.lt;clear hHeld H1 H2 H3 KS cx HX HOWN;cases inx with
  |false=>
   have HQ:=G (BN.out rfl);have HX8:=G X8;have HO8:=G O8;clear BN BW BO BS X8 O8 i1 i2 i3 cx8;go_wp2_with fail;go_roundw
   case rel=>exact⟨i+1,S,k,by omega,by go_num,by rw[HQ.out],by rw[HQ.out];exact HX8.out,by rw[HQ.out];exact HO8.out,hb8,by omega⟩
   simp[intOf];omega
  |true=>
   cases op with
   |true=>
    have HQ:=G (BO.out rfl rfl);obtain⟨j,y,hj,hy,hgr⟩:=BS.out rfl
    obtain⟨g,hS⟩:∃g,S=Z ⟨g,0,N⟩:=by
     rcases O8.2 with⟨_,h0⟩|⟨g,cap,cur,hv',_⟩
     ·omega
     injection hv' with hA' _ _;exact⟨g,hA'⟩
    subst hS;have gO:W5.heap.size≤g:=(O8.lt g rfl).1;have gne:¬g=W4.heap.size:=by omega
    have st:=World.ownsRow.stored O8 (j*2+1) (I J 1114111);rw[sG out j 1114111 hy]at st;have y1:W8.cell? ⟨g,j*2+1,N⟩=Z (I J y.hi):=by
     rw[World.ownsRow.cellAt O8 (j*2+1) (by omega),kG Rg.cells 2 (fun _=>rfl) out j 1 (by omega) (by omega),(List.getElem?_eq_some_iff.1 hy).2];rfl
    have f1:=World.ownsRow.frozenAt O8 (j*2+1);have c8:=X8.cell (i:=0) rfl;have HXS:=G (X8.grown st.2 (by simpa using fun e=>gne e.symm));have HST:=G st.1;have hbs:=hb8.setCell (p:=⟨g,j*2+1,N⟩) (by show W4.heap.size≤g;omega) (I J 1114111);have HG:=G hgr;have HL:=G hj;clear BN BW BO BS X8 O8 st hgr hy cx8;rw[HL.out]at c8;have j1:IntKind.i64.wrap (((j+1:Nat):Int)-1)=(j:Int):=by rw[IntWalk.i64_in _ (by omega)];omega
    go_wp2_with fail;go_roundw
    case rel=>exact⟨i+1,Z ⟨g,0,N⟩,k,by omega,by go_num,by rw[HQ.out],by rw[HQ.out];dsimp only;rw[HG.out,List.length_set];exact HXS.out,by rw[HQ.out];dsimp only;rw[HG.out,List.length_set];exact HST.out,hbs,by simp;omega⟩
    simp[intOf];omega
   |false=>
    have HQ:=G (BW.out rfl rfl);have c8:=X8.cell (i:=0) rfl;have Bq:Below W8.heap.size W8 (W8.alloc (.cells #[I J x,I J 1114111] 126)).drew:=(ba _ _).drew;have HA1:=G (aN O8 Bq);have HA2:Hid (Sl (W8.alloc (.cells #[I J x,I J 1114111] 126)).drew (Z ⟨W8.heap.size,0,N⟩) (Rg.cells ⟨x,1114111⟩)):=G (cK W8 (Rg.cells ⟨x,1114111⟩) 126 rfl);have HXA:=G (X8.below Bq (by omega));have hbq:=hb8.trans (Bq.mono hb8.size);have szp:W5.heap.size≤(W8.alloc (.cells #[I J x,I J 1114111] 126)).drew.heap.size:=Nat.le_trans (by omega:W5.heap.size≤W8.heap.size) Bq.size;have h45:W4.heap.size≤W5.heap.size:=by omega
    have h46:W4.heap.size<W5.heap.size:=by omega
    have hOc:W4.heap.size<W8.heap.size:=by omega
    have hbb1:b1<W8.heap.size:=by have:b1<_:=hbl;omega
    clear BN BW BO BS X8 O8 Bq;go_wp2_with fail;go_region_law (refine BZ rfl (.tmp 67) (.tmp 74) 24 126 (.agg #[I J 0,I J 0]) 2 16 rfl underlying24 mX rfl (by decide) (by decide) rfl HA1.out rfl HA2.out rfl (nD _) (by omega) szp ?_;intro A9 c9 w9 hown9 hc9 hb9 hgr9 _;have X9:=HXA.out.below hb9 h46;have o9:=X9.cell (i:=0) rfl;have f9:=X9.free 0;have HX9:=G X9;have HO9:=G hown9;have hbz:=hbq.trans (hb9.mono h45);have sz9:=hbz.size;clear X9 hown9)
    all_goals
     go_wp2_with fail;go_roundw
     case rel=>
      refine⟨i+1,A9,c9,by omega,by go_num,by rw[HQ.out],?_,?_,?_,?_⟩
      ·rw[HQ.out];dsimp only;rw[List.length_append];exact HX9.out.set 0 _
      ·rw[HQ.out];dsimp only;rw[List.length_append,kF];exact pR HO9.out (p:=⟨W4.heap.size,0,N⟩) h46 _
      ·exact hbz.setCell (p:=⟨W4.heap.size,0,N⟩) (Nat.le_refl _) _
      have:=hb9.size;simp at this⊢;omega
     simp[intOf];omega
 obtain rfl:i=cs.length:=by omega
 have X9:=HX.out;have X0':=(X0.below hb6 hx2);have c9:=X9.cell (i:=0) rfl;have z9:=X0'.cell (i:=0) rfl;have f9:=X0'.free 0;have hxr:W4.heap.size<wr.heap.size:=X9.lt;have hne1:¬W4.heap.size=w.heap.size+2:=by omega
 have hne2:¬w.heap.size+2=W4.heap.size:=by omega
 rw[←HR.out]at c9 HOWN;have hbf:=hbw.setCell (p:=⟨w.heap.size+2,0,N⟩) (by show w.heap.size≤w.heap.size+2;omega) (H S R.length k);have HRW:=G (Sl.of_own (pR HOWN.out (p:=⟨w.heap.size+2,0,N⟩) (by show w.heap.size+2<W5.heap.size;omega) (H S R.length k)));have hc:=mI HOWN.out;clear HX X9 X0' HR HOWN;go_wp2_with fail;(try simp only[Exit.inBlock,Exit.then]);refine bodyPost_ret (VZ _ _ (b:=w.heap.size+2) (v0:=H S R.length k) rfl (by go_simp)) rfl ?_;exact⟨S,k,rfl,hc,HRW.out,hbf⟩
theorem WB(tmps:Array Value)(w:World){b:Nat}{v0:Value}(ha:tmps.getD 2 undef=.pointer (Z ⟨b,0,N⟩))(c0:w.cell? ⟨b,0,N⟩=Z v0):
  (results f114 tmps).run prog w=.ok (.agg #[v0]) w:=by
 have hr:f114.results=#[.cell 2 26]:=rfl;unfold results;rw[hr];simp only[ha,List.mapM_toArray,List.mapM_cons,List.mapM_nil,asAddr];go_simp
theorem VF(A:Option Addr)(n a:Nat)(rs:List Rg)(w:World)(hA:Rgs w A rs)(hn:rs.length=n)(hz:n≤1000):
  Calls prog 114 #[H A n a] w (rD (eO rs) w):=by
 have B0:Below w.heap.size w (w.alloc (.cells #[H N 0 0] 26)):=ba _ _;have X0:Box (w.alloc (.cells #[H N 0 0] 26)) w.heap.size 26 [H N 0 0]:=Box.new _ _ _ rfl;have CC:=G (JP A n a rs (w.alloc (.cells #[H N 0 0] 26)) (hA.below B0) hn hz);have W0E:∃W0,(w.alloc (.cells #[H N 0 0] 26))=W0:=⟨_,rfl⟩;generalize eO rs=R at *;clear hA;go_enter func114,ntmps114;go_wp2_with fail;obtain⟨W0,hW0⟩:=W0E;rw[hW0]at B0 X0 CC⊢;clear hW0;with_reducible refine CC.out.mono ?_
 rintro e W1 ⟨E,d,rfl,hd,hE,hb1⟩;have X1:=X0.below hb1 X0.lt;have c1:=X1.cell (i:=0) rfl;have f1:=X1.free 0;have hlt:=X1.lt;have HE:=G hE
 have HB:=U (Rgs (W1.setCell ⟨w.heap.size,0,N⟩ (H E R.length d)) E R) (fun hne=>by
  obtain⟨b,o,hA,hc⟩:=HE.out hne
  refine⟨b,o,hA,fun j u hu=>?_⟩
  have h1:=hc j u hu
  refine(World.cell?_setCell_far _ _ _ _ (fun e=>?_)).trans h1
  have e':w.heap.size=b:=e
  subst e'
  have h3:W1.cell? ⟨w.heap.size,o+j,N⟩=Z u:=h1
  have hint:∃z,u=I J z:=by
   have hm:u∈aI Rg.cells R:=List.mem_of_getElem? hu
   obtain⟨r,_,hr⟩:=List.mem_flatMap.1 hm
   simp only[Rg.cells,List.mem_cons,List.not_mem_nil,or_false]at hr
   rcases hr with rfl|rfl
   ·exact⟨_,rfl⟩
   exact⟨_,rfl⟩
  obtain⟨z,rfl⟩:=hint
  unfold Box at X1
  rcases hoj:o+j with _|m
  ·rw[hoj]at h3;rw[c1]at h3;cases h3
  ·rw[hoj]at h3
   simp[World.cell?,X1]at h3)
 have hbf:=(B0.trans (hb1.mono B0.size)).setCell (p:=⟨w.heap.size,0,N⟩) (Nat.le_refl _) (H E R.length d);clear CC X0 X1 hE;go_wp2_with fail;(try simp only[Exit.inBlock,Exit.then]);refine bodyPost_ret (WB _ _ (b:=w.heap.size) (v0:=H E R.length d) rfl (by go_simp)) rfl ?_;exact⟨E,d,rfl,hd,HB.out,hbf⟩
theorem pO(a b c d:Int)(w:World):(binOp .neq 126 (.agg #[I J a,I J b]) (.agg #[I J c,I J d])).run prog w=.ok (.bool (!decide ((⟨a,b⟩:Rg)=⟨c,d⟩))) w:=by
 have u3:=underlying3;have a3:=isAgg3;have z3:=sizeOf3;have hS:prog.underlying 126=Z (.struct (prog.fieldsOf 126)):=by kernel_rfl
 have hp:prog.stoodInHeld 126=false:=by kernel_rfl
 rw[run_neq_struct,show(10000:Nat)=9999+1 from rfl,run_equalIn_agg w 9999 126 _ _ hS hp];simp only[Program.fieldsOf,underlying126];go_simp;by_cases h2:a=c<;>by_cases h3:b=d<;>simp[h2,h3]
theorem BL{xs ys:List Rg}(h:xs.length≠ys.length):decide (xs=ys)=false:=by simp;exact fun e=>h (by rw[e])
theorem BM{xs ys:List Rg}{k:Nat}(h1:k<xs.length)(h2:k<ys.length)(h:¬xs[k]=ys[k]):decide (xs=ys)=false:=by simp;rintro rfl;exact h rfl
theorem BK{xs ys:List Rg}(hl:xs.length=ys.length)(h:∀t,(h1:t<xs.length)→(h2:t<ys.length)→xs[t]=ys[t]):decide (xs=ys)=true:=by simp;exact List.ext_getElem hl h
theorem VJ(A:Option Addr)(n a:Nat)(B:Option Addr)(m b:Nat)(xs ys:List Rg)(w:World)(hA:Rgs w A xs)(hB:Rgs w B ys)(hn:xs.length=n)(hm:ys.length=m)(hz:n≤1048576)(hz2:m≤1048576):
  Calls prog 113 #[.agg #[H A n a],.agg #[H B m b]] w (fY (decide (xs=ys)) w):=by
 subst hn;subst hm;have S1:=G (BL (xs:=xs) (ys:=ys));have S2:=G (fun k h1 h2 h=>BM (xs:=xs) (ys:=ys) (k:=k) h1 h2 h);have S3:=G (BK (xs:=xs) (ys:=ys));generalize decide (xs=ys)=R at *;have B0:Below w.heap.size w ((w.alloc (.cells #[H A xs.length a] 26)).alloc (.cells #[H B ys.length b] 26)):=(ba _ _).alloc (by simp) _;have k0:((w.alloc (.cells #[H A xs.length a] 26)).alloc (.cells #[H B ys.length b] 26)).cell? ⟨w.heap.size,0,N⟩=Z (H A xs.length a):=by simp
 have k1:((w.alloc (.cells #[H A xs.length a] 26)).alloc (.cells #[H B ys.length b] 26)).cell? ⟨w.heap.size+1,0,N⟩=Z (H B ys.length b):=by simp
 have s0:((w.alloc (.cells #[H A xs.length a] 26)).alloc (.cells #[H B ys.length b] 26)).heap.size=w.heap.size+2:=by simp
 have W0E:∃W0,((w.alloc (.cells #[H A xs.length a] 26)).alloc (.cells #[H B ys.length b] 26))=W0:=⟨_,rfl⟩;have HA:=G (hA.below B0);have HB:=G (hB.below B0);clear hA hB;by_cases hl:xs.length=ys.length;rotate_left
 ·obtain rfl:=S1.out hl
  have q1:((xs.length:Int)!=(ys.length:Int))=true:=by simp;omega
  go_enter func113,ntmps113;go_wp2_with fail;go_ret;exact⟨rfl,B0⟩
 have q1:((xs.length:Int)!=(ys.length:Int))=false:=by simp;omega
 have HL:=G hl;have hle:xs.length≤ys.length:=by omega
 have S3':=G (S3.out hl);clear hl S1 S3;go_enter func113,ntmps113;go_wp2_with fail;obtain⟨W0,hW0⟩:=W0E;rw[hW0]at B0 k0 k1 s0 HA HB⊢;clear hW0 q1;have hx0:w.heap.size<W0.heap.size:=by omega
 have hx1:w.heap.size+1<W0.heap.size:=by omega
 go_loopw [5] (fun u wr=>∃i:Nat,i≤xs.length∧u=I J i∧(∀t,(h1:t<xs.length)→(h2:t<ys.length)→t<i→xs[t]=ys[t])∧Below W0.heap.size W0 wr) (fun u _=>xs.length-(intOf u).toNat)
 case atStart=>exact⟨0,Nat.zero_le _,rfl,fun t _ _ h=>by omega,Below.refl _ _⟩
 obtain⟨i,hi,rfl,hno,hbr⟩:=hrel;have HNO:=G hno;clear hno;have f0:=(hbr.cell (p:=⟨w.heap.size,0,N⟩) hx0).trans k0;have f1:=(hbr.cell (p:=⟨w.heap.size+1,0,N⟩) hx1).trans k1;by_cases hlt:i<xs.length
 ·have hlt2:i<ys.length:=by omega
  obtain⟨b1,o1,rfl,hbl,hcell⟩:=(HA.out.below hbr).at hlt;obtain⟨c1,c2⟩:=hcell i hlt;obtain⟨b2,o2,rfl,hbl2,hcell2⟩:=(HB.out.below hbr).at hlt2;obtain⟨d1,d2⟩:=hcell2 i hlt2;have HY:=G (fun h=>S2.out i hlt hlt2 h)
  have HN:=G (fun(h:xs[i]=ys[i])=>show ∀t,(h1:t<xs.length)→(h2:t<ys.length)→t<i+1→xs[t]=ys[t]from fun t h1 h2 ht=>by
   by_cases e:t<i
   ·exact HNO.out t h1 h2 e
   ·obtain rfl:t=i:=by omega
    exact h)
  clear hcell hcell2;generalize xs[i]=x at *;generalize ys[i]=y at *;obtain⟨xl,xh⟩:=x;obtain⟨yl,yh⟩:=y;dsimp only at *;have i1:(0:Int)≤(i:Int):=by omega
  have i2:(i:Int)<(xs.length:Int):=by omega
  have i3:((i:Int)).toNat=i:=by omega
  have i4:(i:Int)<(ys.length:Int):=by omega
  by_cases he:(⟨xl,xh⟩:Rg)=⟨yl,yh⟩
  ·have HQ:=G (HN.out he)
   have NR1:∀W,(binOp .neq 126 (.agg #[I J xl,I J xh]) (.agg #[I J yl,I J yh])).run prog W=.ok (.bool false) W:=fun W=>by rw[pO,he];simp
   clear HY HN he;go_wp2_with fail;go_quiet(fail);go_wp2_with fail;go_roundw
   case rel=>exact⟨i+1,by omega,by go_num,HQ.out,bK hbr _⟩
   simp[intOf];omega
  obtain rfl:=HY.out he;have NR1:∀W,(binOp .neq 126 (.agg #[I J xl,I J xh]) (.agg #[I J yl,I J yh])).run prog W=.ok (.bool true) W:=fun W=>by rw[pO,decide_eq_false he];rfl
  clear HY HN he;go_wp2_with fail;go_quiet(fail);go_wp2_with fail;go_ret;exact⟨rfl,B0.trans ((bK hbr _).mono B0.size)⟩
 obtain rfl:=S3'.out (fun t h1 h2=>HNO.out t h1 h2 (by omega));go_wp2_with fail;go_ret;exact⟨rfl,B0.trans (hbr.mono B0.size)⟩
theorem vQ(rs:List Rg):(eO rs).length≤2*rs.length+2:=by
 unfold eO;have h1:=rO (p:=bA rs) (cs:=bH (bH [] rs) []) (bH (bH [] rs) []).length;have h2:(bH (bH [] rs) []).length≤(bH [] rs).length+2*0+1:=oN [] (bH [] rs);have h3:(bH [] rs).length≤0+2*rs.length+1:=oN rs [];omega
theorem VK(A:Option Addr)(n a:Nat)(rs:List Rg)(w:World)(hA:Rgs w A rs)(hn:rs.length=n)(hz:n≤1000):
  Calls prog 75 #[.agg #[H A n a]] w (fY (gU rs) w):=by
 have B0:Below w.heap.size w (w.alloc (.cells #[H A n a] 26)):=ba _ _;have k0:(w.alloc (.cells #[H A n a] 26)).cell? ⟨w.heap.size,0,N⟩=Z (H A n a):=by simp
 have s0:(w.alloc (.cells #[H A n a] 26)).heap.size=w.heap.size+1:=by simp
 have W0E:∃W0,(w.alloc (.cells #[H A n a] 26))=W0:=⟨_,rfl⟩;have MC:=G (fun W(hb:Below w.heap.size w W)=>VF A n a rs W (hA.below hb) hn hz);have hl:=vQ rs;have SC:=G (fun E d W(hb:Below w.heap.size w W)hE=>VJ A n a E (eO rs).length d rs (eO rs) W (hA.below hb) hE hn rfl (by omega) (by omega));have HS:=G (show decide (rs=eO rs)=gU rs by unfold gU;rw[Bool.eq_iff_iff];simp;exact eq_comm);generalize decide (rs=eO rs)=R1 at *;generalize gU rs=R2 at *;generalize eO rs=cr at *;clear hA;go_enter func75,ntmps75;go_wp2_with fail;obtain⟨W0,hW0⟩:=W0E;rw[hW0]at B0 k0 s0⊢;clear hW0;have hx0:w.heap.size<W0.heap.size:=by omega
 have KP:=U (∀W',Below W0.heap.size W0 W'→W'.cell? ⟨w.heap.size,0,N⟩=Z (H A n a)∧Below W0.heap.size W0 W') (fun W' hb=>⟨(hb.cell (p:=⟨w.heap.size,0,N⟩) hx0).trans k0,hb⟩);have C1:=G (fun W(hb:Below W0.heap.size W0 W)=>(MC.out W (B0.trans (hb.mono B0.size))).mono (R':=fun e W'=>∃v,e=.returned v∧(W'.cell? ⟨w.heap.size,0,N⟩=Z (H A n a)∧Below W0.heap.size W0 W')∧(∃E d,v=.agg #[H E cr.length d]∧Rgs W' E cr)) (fun e w'⟨E,d,he,_,hE,hb'⟩=>⟨_,he,KP.out w' (hb.trans (hb'.mono hb.size)),E,d,rfl,hE⟩));have C2:=G (fun E d W(hb:Below W0.heap.size W0 W)hE=>(SC.out E d W (B0.trans (hb.mono B0.size)) hE).mono (R':=fun e W'=>e=.returned (.bool R1)∧(W'.cell? ⟨w.heap.size,0,N⟩=Z (H A n a)∧Below W0.heap.size W0 W')) (fun e w'⟨he,hb'⟩=>⟨he,KP.out w' (hb.trans (hb'.mono hb.size))⟩));refine wp_region_held_drew (S:=fun W'=>W'.cell? ⟨w.heap.size,0,N⟩=Z (H A n a)∧Below W0.heap.size W0 W') (by kernel_rfl) (KP.out _ (Below.refl _ _).drew) (fun hHeld=>?_);refine tK 0 3 ?_;refine tK 1 4 ?_;refine tK 2 5 ?_;refine oE (i:=3) (Z 6) rfl rfl (by kernel_rfl) (by rfl) (by go_simp) (C1.out _ hHeld.2) (fun v W3 hS6 hR6=>?_);obtain⟨E1,d1,rfl,hE1⟩:=hR6;clear hHeld;have hHeld:=hS6;clear hS6;try simp only[Act.put,sA,sB,sC]
 refine vF (i:=4) (Z 7) rfl rfl (by kernel_rfl) (by rfl) (by go_simp) (C2.out E1 d1 _ hHeld.2 hE1) (fun W4 hS6=>?_);clear hHeld hE1;have hHeld:=hS6;clear hS6;try simp only[Act.put,sA,sB,sC]
 refine tK 5 2 ?_;refine wpAnyH_done (by kernel_rfl) ?_ _;go_wp2_with fail;go_ret;exact⟨cX HS.out,B0.trans (hHeld.2.mono B0.size)⟩
theorem PY(n:Nat)(h:n≤12)(w:World):Calls prog 185 #[.int .u64 n] w (fun e w'=>(∃z:Int,e=.returned (I J z))∧w=w'):=by
 obtain rfl|rfl|rfl|rfl|rfl|rfl|rfl|rfl|rfl|rfl|rfl|rfl|rfl:n=0∨n=1∨n=2∨n=3∨n=4∨n=5∨n=6∨n=7∨n=8∨n=9∨n=10∨n=11∨n=12:=by omega
 all_goals
  go_enter func185,ntmps185;go_wp2;go_ret;exact⟨⟨_,rfl⟩,rfl⟩
theorem yM(n:Nat)(h:n≤12)(w:World):Calls prog 159 #[.int .u64 n] w (fun e w'=>(∃z:Int,e=.returned (I J z))∧w=w'):=by
 have LC:=G (PY n h w);go_enter func159,ntmps159;go_wp2_with fail;refine LC.out.mono ?_;rintro e w' ⟨⟨z,rfl⟩,rfl⟩;go_wp2_with fail;go_ret;exact⟨⟨_,rfl⟩,rfl⟩
theorem YR(base g n c:Nat)(d:List Rg)(w:World)(hR:dZ w base g n c d)(hbig:n≤12)(hok:∀x∈d,dI x):
  Calls prog 131 #[H (Z ⟨g,0,N⟩) n c,.func (.func 132) #[] #[]] w (rA (fun d'=>Srt.Done eK d d' 0 n) base g n c w):=by
 have LC:=G (yM n hbig w);have PC:=G (fun z=>UL base g n c z d w hR hbig hok);have hu:IntKind.u64.wrap (n:Int)=(n:Int):=by rw[IntKind.wrap_u64];omega
 clear hR hok;go_enter func131,ntmps131;go_wp2_with fail;refine LC.out.mono ?_;rintro e w' ⟨⟨z,rfl⟩,rfl⟩;go_wp2_with fail;refine(PC.out z).mono ?_;rintro e w1 ⟨rfl,d1,hD,hR1,hg1⟩;have HD:=G (And.intro hD (And.intro hR1 hg1));clear hD hR1 hg1;go_wp2_with fail;go_end0;exact⟨rfl,d1,HD.out.1,HD.out.2.1,HD.out.2.2⟩
def q_(w:World)(e:Ending)(w':World):Prop:=e=.returned (.tuple #[])∧w=w'
theorem OD(S:Option Addr)(n c:Nat)(hn:n≤0)(w:World):Calls prog 176 #[H S n c,I J 0,I J n,.func (.func 132) #[] #[]] w (q_ w):=by
 have HN:=G hn;clear hn;go_enter func176,ntmps176;go_wp2;go_loop [8] (fun i=>∃k:Nat,k=1∧i=I J k) (fun _=>0)
 case atStart=>exact⟨1,rfl,rfl⟩
 obtain⟨k,hk,rfl⟩:=hrel;have hk1:¬k<n:=by have:=HN.out;omega
 clear hk HN;go_wp2;go_end0;exact⟨rfl,rfl⟩
theorem UM(S:Option Addr)(n c:Nat)(hn:n≤0)(z:Int)(w:World):Calls prog 158 #[H S n c,I J 0,I J n,I J z,.func (.func 132) #[] #[]] w (q_ w):=by
 have C:=G (OD S n c hn w);have q1:decide ((n:Int)≤12)=true:=by simp;omega
 have q2:decide (n≤12)=true:=by simp;omega
 have hbig:n≤12:=by omega
 clear hn;go_enter func158,ntmps158;go_wp2_with fail;refine wp_loop_rounds 1 ?_;rw[rounds_succ];go_wp2_with fail;refine C.out.mono ?_;rintro e w1 ⟨rfl,hw⟩;have HW:=G hw;clear hw;go_wp2_with fail;go_end0;exact⟨rfl,HW.out⟩
theorem YS(S:Option Addr)(n c:Nat)(hn:n≤0)(w:World):Calls prog 131 #[H S n c,.func (.func 132) #[] #[]] w (q_ w):=by
 have LC:=G (yM n (by omega) w);have PC:=G (fun z=>UM S n c hn z w);have hu:IntKind.u64.wrap (n:Int)=(n:Int):=by rw[IntKind.wrap_u64];omega
 have hbig:n≤12:=by omega
 clear hn;go_enter func131,ntmps131;go_wp2_with fail;refine LC.out.mono ?_;rintro e w' ⟨⟨z,rfl⟩,rfl⟩;go_wp2_with fail;refine(PC.out z).mono ?_;rintro e w1 ⟨rfl,rfl⟩;go_wp2_with fail;go_end0;exact⟨rfl,rfl⟩
theorem GJ{xs ys:List Rg}(h:∀r,r∈xs ↔ r∈ys)(c:Int):cU xs c=true ↔ cU ys c=true:=by
 rw[c_,c_];exact⟨fun⟨r,hr,h1⟩=>⟨r,(h r).1 hr,h1⟩,fun⟨r,hr,h1⟩=>⟨r,(h r).2 hr,h1⟩⟩
theorem IE{rs ds out:List Rg}{b:Int}(hst:Srt.St eK (dA rs) ds)(hm:Mg ds out b):out=eO rs:=
 IF hm.ok (fun c c0 c1=>by
  rw[hm.any c,GJ (ys:=dA rs) (fun r=>⟨fun h=>mN hst h,fun h=>FR hst h⟩) c]
  exact IN c0 c1)
theorem YT{ds:List Rg}{n:Nat}(hs:Srt.SortedOn eK ds 0 n)(hok:∀r∈ds,dI r)(hn:ds.length=n){i t:Nat}(hit:i<t)(ht:t<ds.length):(ds[i]'(by omega)).lo≤ds[t].lo:=by
 have h1:=hs i t (by omega) hit (by omega);rw[Srt.kf_some (List.getElem?_eq_getElem (show i<ds.length by omega)),Srt.kf_some (List.getElem?_eq_getElem ht)]at h1;have a:=hok _ (List.getElem_mem (show i<ds.length by omega));have b:=hok _ (List.getElem_mem ht);unfold eK at h1;unfold dI at a b;omega
section
variable {out:List Rg}{q:Rg}
theorem RW{k:Nat}(hk:out.length=k+1){x:Rg}(hx:out[k]?=Z x)(h:¬q.lo≤x.hi+1):mrg out q=out++[q]:=by
 unfold mrg;have:out.getLast?=Z x:=by rw[List.getLast?_eq_getElem?,hk];simpa using hx
 rw[this];simp[h]
theorem RX{k:Nat}(hk:out.length=k+1){x:Rg}(hx:out[k]?=Z x)(h:q.lo≤x.hi+1):mrg out q=out.set k ⟨x.lo,max x.hi q.hi⟩:=by
 unfold mrg;have:out.getLast?=Z x:=by rw[List.getLast?_eq_getElem?,hk];simpa using hx
 rw[this];simp only[h,if_true];rw[o_ hk];have e:out[k]'(by omega)=x:=(List.getElem?_eq_some_iff.1 hx).2;rw[e]
end
theorem WA(tmps:Array Value)(w:World){b:Nat}{v0:Value}(ha:tmps.getD 2 undef=.pointer (Z ⟨b,0,N⟩))(c0:w.cell? ⟨b,0,N⟩=Z v0):
  (results f101 tmps).run prog w=.ok (.agg #[v0]) w:=by
 have hr:f101.results=#[.cell 2 26]:=rfl;unfold results;rw[hr];simp only[ha,List.mapM_toArray,List.mapM_cons,List.mapM_nil,asAddr];go_simp
theorem JT(A:Option Addr)(n a:Nat)(rs:List Rg)(w:World)(hA:Rgs w A rs)(hn:rs.length=n)(hz:n≤12):
  Calls prog 101 #[H A n a] w (rD (eO rs) w):=by
 subst hn;have B0:Below w.heap.size w (w.alloc (.cells #[H N 0 0] 26)):=ba _ _;have X0:Box (w.alloc (.cells #[H N 0 0] 26)) w.heap.size 26 [H N 0 0]:=Box.new _ _ _ rfl;have s0:(w.alloc (.cells #[H N 0 0] 26)).heap.size=w.heap.size+1:=by simp
 have W0E:∃W0,(w.alloc (.cells #[H N 0 0] 26))=W0:=⟨_,rfl⟩;have HA:=G hA;have HCO:=G (fun ds out b h1 h2=>IE (rs:=rs) (ds:=ds) (out:=out) (b:=b) h1 h2);have HCL:=G (IOq rs);have hcl:=wA rs;generalize eO rs=R at *;clear hA;go_enter func101,ntmps101;go_wp2_with fail;obtain⟨W0,hW0⟩:=W0E;rw[hW0]at B0 X0 s0⊢;clear hW0;have HNIL:=U (W0.ownsRow W0.heap.size 126 2 (H N 0 0) 0 ([]:List Value)) (World.ownsRow_nil _ _ _ _);have C0:=U (dA (rs.take 0)=[]) rfl;go_loopw [3,13] (fun v u wr=>∃(i:Nat)(S:Option Addr)(k:Nat),i≤rs.length∧u=I J i∧v=H S (dA (rs.take i)).length k∧wr.ownsRow W0.heap.size 126 2 (H S (dA (rs.take i)).length k) (dA (rs.take i)).length (aI Rg.cells (dA (rs.take i)))∧Below W0.heap.size W0 wr) (fun _ u _=>rs.length-(intOf u).toNat)
 case atStart=>exact⟨0,N,0,Nat.zero_le _,rfl,by rw[C0.out];rfl,by rw[C0.out];exact HNIL.out,Below.refl _ _⟩
 obtain⟨i,S,k,hi,rfl,rfl,hown,hbr⟩:=hrel;have HOWN:=G hown;clear hown HNIL C0;have hbw:=B0.trans (hbr.mono B0.size);have hcli:(dA (rs.take i)).length≤i:=Nat.le_trans (wA _) (List.length_take_le _ _);by_cases hlt:i<rs.length
 ·obtain⟨b1,o1,rfl,hbl,hcell⟩:=(HA.out.below hbw).at hlt
  obtain⟨c1,c2⟩:=hcell i hlt;have CT:=G (IP hlt);have CP:=U (f_ rs[i]=⟨max rs[i].lo 0,min rs[i].hi 1114111⟩) rfl;clear hcell;generalize hcc:f_ rs[i]=cr at *;clear hcc;generalize rs[i]=ri at *;generalize hL0:dA (rs.take i)=L0 at *;clear hL0;obtain⟨rlo,rhi⟩:=ri;obtain⟨pl,ph⟩:=cr;dsimp only at *;have e0:=CP.out;injection e0 with e1 e2;have em:(if rlo<0 then(0:Int)else rlo)=pl:=by rw[e1];split<;>omega
  have eM:(if 1114111<rhi then(1114111:Int)else rhi)=ph:=by rw[e2];split<;>omega
  clear e1 e2 CP;have hn1:¬b1=wr.heap.size:=by omega
  have Bp:Below wr.heap.size wr ((wr.alloc (.cells #[I J rlo,I J rhi] 126)).alloc (.cells #[I J pl,I J ph] 126)):=(ba _ _).alloc (by simp) _;by_cases hp:pl≤ph
  ·have q1:decide (pl≤ph)=true:=by simpa using hp
   have ct:=CT.out;rw[if_pos hp]at ct;have HCT:=G ct;have Bq:Below wr.heap.size wr (((wr.alloc (.cells #[I J rlo,I J rhi] 126)).alloc (.cells #[I J pl,I J ph] 126)).alloc (.cells #[I J pl,I J ph] 126)):=Bp.alloc Bp.size _;have HOP:=G (aN HOWN.out Bq);have szp:W0.heap.size≤(((wr.alloc (.cells #[I J rlo,I J rhi] 126)).alloc (.cells #[I J pl,I J ph] 126)).alloc (.cells #[I J pl,I J ph] 126)).heap.size:=Nat.le_trans hbr.size Bq.size;have hb9:=hbr.trans (Bq.mono hbr.size);clear CT ct HOWN Bp Bq;go_wp2_with(at_builtin;refine aJ _ _ 24 126 (.agg #[I J 0,I J 0]) 2 16 rfl rfl underlying24 mX rfl (by decide) (by decide) rfl HOP.out rfl (cK _ (Rg.cells ⟨pl,ph⟩) _ (by simp)) rfl (nD _) (by omega) szp ?_;intro A7 c7 w7 hown7 hc7 hb7 _ _;have HO7:=G hown7;clear hown7);go_roundw
   case rel=>exact⟨i+1,A7,c7,by omega,by go_num,by rw[HCT.out,List.length_append];rfl,by rw[HCT.out,List.length_append,kF];exact HO7.out,hb9.trans hb7⟩
   simp[intOf];omega
  have q1:decide (pl≤ph)=false:=by simpa using hp
  have ct:=CT.out;rw[if_neg hp,List.append_nil]at ct;have HCT:=G ct;have HOP:=G (aN HOWN.out Bp);have hb9:=hbr.trans (Bp.mono hbr.size);clear CT ct HOWN Bp;go_wp2_with fail;go_roundw
  case rel=>exact⟨i+1,S,k,by omega,by go_num,by rw[HCT.out],by rw[HCT.out];exact HOP.out,hb9⟩
  simp[intOf];omega
 rw[List.take_of_length_le (show rs.length≤i by omega)]at HOWN⊢;clear hcli
 have SRT:=G (show Calls prog 131 #[H S (dA rs).length k,.func (.func 132) #[] #[]] wr (fun e w'=>e=.returned (.tuple #[])∧∃ds,ds.length=(dA rs).length∧Srt.St eK (dA rs) ds∧Srt.SortedOn eK ds 0 (dA rs).length∧Rgs w' S ds∧Below W0.heap.size W0 w') by
  rcases Nat.eq_zero_or_pos (dA rs).length with h0|h0
  ·have hnil:dA rs=[]:=List.length_eq_zero_iff.1 h0
   exact(YS S (dA rs).length k (by omega) wr).mono (fun e w'⟨he,hw⟩=>⟨he,[],by rw[hnil],by rw[hnil];exact Srt.St.refl _,Srt.SortedOn.short (by omega),Sl.nil _ _,by subst hw;exact hbr⟩)
  ·have ho:=HOWN.out
   obtain⟨g,hS⟩:∃g,S=Z ⟨g,0,N⟩:=by
    rcases ho.2 with⟨_,h1⟩|⟨g,cap,cur,hv',_⟩
    ·omega
    injection hv' with hA' _ _;exact⟨g,hA'⟩
   subst hS
   have hg0:W0.heap.size≤g:=(ho.lt g rfl).1
   refine(YR W0.heap.size g (dA rs).length k (dA rs) wr ho (by omega) HCL.out).mono (fun e w'⟨he,d1,hD,hR1,hg1⟩=>⟨he,d1,hR1.len,hD.2.1,hD.2.2,Sl.of_own hR1,kA hbr hg1 hg0 hbr.size⟩))
 clear HOWN;generalize hcl0:dA rs=cl at *;clear hcl0;go_wp2_with fail;with_reducible refine SRT.out.mono ?_
 rintro e W2 ⟨rfl,ds,hdl,hst,hso,hds,hb2⟩;have HDS:=G hds;have HST:=G hst;have HDL:=G hdl;have HOK:=U (∀r∈ds,dI r) (fun r hr=>HCL.out r (mN hst hr));have HLO:=U (∀i t,(hit:i<t)→(ht:t<ds.length)→(ds[i]'(by omega)).lo≤ds[t].lo) (fun i t hit ht=>YT hso (fun r hr=>HCL.out r (mN hst hr)) hdl (i:=i) (t:=t) hit ht);rw[←hdl];have hdz:ds.length≤12:=by omega
 clear SRT hds hst hso hdl;have HNIL:=U (W2.ownsRow W2.heap.size 126 2 (H N 0 0) 0 ([]:List Value)) (World.ownsRow_nil _ _ _ _);have hb3:=B0.trans (hb2.mono B0.size);go_wp2_with fail;go_loopw [7,38] (fun v u wr=>∃(i:Nat)(S:Option Addr)(k:Nat)(out:List Rg)(b:Int),i≤ds.length∧u=I J i∧v=H S out.length k∧wr.ownsRow W2.heap.size 126 2 (H S out.length k) out.length (aI Rg.cells out)∧out.length≤i∧Mg (ds.take i) out b∧(∀t,(ht:t<ds.length)→i≤t→b≤ds[t].lo)∧Below W2.heap.size W2 wr) (fun _ u _=>ds.length-(intOf u).toNat)
 case atStart=>exact⟨0,N,0,[],0,Nat.zero_le _,rfl,rfl,HNIL.out,Nat.le_refl _,Mg.nil 0,fun t ht _=>(HOK.out _ (List.getElem_mem ht)).1,Below.refl _ _⟩
 obtain⟨i,S',k',out,b,hi,rfl,rfl,hown,hol,hMg,hbl',hbr2⟩:=hrel;have HOWN:=G hown;have HMG:=G hMg;have HBL:=G hbl';clear hown hMg hbl' HNIL;by_cases hlt:i<ds.length
 ·obtain⟨b1,o1,rfl,hbl,hcell⟩:=(HDS.out.below hbr2).at hlt
  obtain⟨c1,c2⟩:=hcell i hlt;have hclip:=HOK.out ds[i] (List.getElem_mem hlt);have HMS:=G (show Mg (ds.take (i+1)) (mrg out ds[i]) ds[i].lo by rw[List.take_succ_eq_append_getElem hlt];exact HMG.out.step (HBL.out i hlt (Nat.le_refl _)) hclip);have HBS:=U (∀t,(ht:t<ds.length)→i+1≤t→ds[i].lo≤ds[t].lo) (fun t ht hit=>HLO.out i t (by omega) ht);have MO:=G (fun hk x hx h=>RW (out:=out) (q:=ds[i]'hlt) (k:=out.length-1) hk (x:=x) hx h);have MS:=G (fun hk x hx h=>RX (out:=out) (q:=ds[i]'hlt) (k:=out.length-1) hk (x:=x) hx h);have MN:=G (fun(h:out=[])=>show mrg out ds[i]=out++[ds[i]] by subst h;rfl);have HOO:=G HMG.out.ok.1;clear hcell HMG HBL;generalize mrg out ds[i]=M1 at *;generalize ds[i]=q at *;obtain⟨qlo,qhi⟩:=q;dsimp only at *;unfold dI at hclip;dsimp only at hclip;have Ba:Below wr.heap.size wr (wr.alloc (.cells #[I J qlo,I J qhi] 126)):=ba _ _;have sa:(wr.alloc (.cells #[I J qlo,I J qhi] 126)).heap.size=wr.heap.size+1:=by simp
  have x0:(wr.alloc (.cells #[I J qlo,I J qhi] 126)).cell? ⟨wr.heap.size,0,N⟩=Z (I J qlo):=by simp
  have x1:(wr.alloc (.cells #[I J qlo,I J qhi] 126)).cell? ⟨wr.heap.size,1,N⟩=Z (I J qhi):=by simp
  have HOA:=G (aN HOWN.out Ba);have HGW:=U (∀g,S'=Z ⟨g,0,N⟩→g<wr.heap.size) (fun g e=>(HOWN.out.lt g (by rw[e];rfl)).2);have hb4:=hbr2.trans (Ba.mono hbr2.size);have WaE:∃Wa,wr.alloc (.cells #[I J qlo,I J qhi] 126)=Wa:=⟨_,rfl⟩;have hn1:¬b1=wr.heap.size:=by omega
  clear HOWN;go_wp2_with fail;obtain⟨Wa,hWa⟩:=WaE;rw[hWa]at Ba sa x0 x1 HOA hb4⊢;clear hWa c1 c2;rcases Nat.eq_zero_or_pos out.length with hl0|hl0
  ·have hnil:out=[]:=List.length_eq_zero_iff.1 hl0
   obtain rfl:=MN.out hnil;have q0:decide ((0:Int)<(out.length:Int))=false:=by simp[hnil]
   have q00:decide (0<out.length)=false:=by simp[hnil]
   clear MN MO MS hnil hl0;go_quiet(fail);have x0q:(Wa.drewN nq).cell? ⟨wr.heap.size,0,N⟩=Z (I J qlo):=x0;have x1q:(Wa.drewN nq).cell? ⟨wr.heap.size,1,N⟩=Z (I J qhi):=x1;have HOQ:=U ((Wa.drewN nq).ownsRow W2.heap.size 126 2 (H S' out.length k') out.length (aI Rg.cells out)) HOA.out;have hb5:=bK hb4 nq;have hxq:wr.heap.size<(Wa.drewN nq).heap.size:=by show wr.heap.size<Wa.heap.size;omega
   clear HOA hb4 sa x0 x1;generalize Wa.drewN nq=Wq at *;have Bq:Below Wq.heap.size Wq (Wq.alloc (.cells #[I J qlo,I J qhi] 126)):=ba _ _;have HOP:=G (aN HOQ.out Bq);have hb6:=hb5.trans (Bq.mono hb5.size);have szp:W2.heap.size≤(Wq.alloc (.cells #[I J qlo,I J qhi] 126)).heap.size:=hb6.size;clear HOQ Bq;go_wp2_with(at_builtin;refine aJ _ _ 24 126 (.agg #[I J 0,I J 0]) 2 16 rfl rfl underlying24 mX rfl (by decide) (by decide) rfl HOP.out rfl (cK _ (Rg.cells ⟨qlo,qhi⟩) _ rfl) rfl (nD _) (by omega) szp ?_;intro A7 c7 w7 hown7 hc7 hb7 _ _;have HO7:=G hown7;clear hown7);go_roundw
   case rel=>exact⟨i+1,A7,c7,out++[⟨qlo,qhi⟩],qlo,by omega,by go_num,by rw[List.length_append];rfl,by rw[List.length_append,kF];exact HO7.out,by rw[List.length_append];simp;omega,HMS.out,HBS.out,hb6.trans hb7⟩
   simp[intOf];omega
  obtain⟨j,hj⟩:∃j,out.length=j+1:=⟨out.length-1,by omega⟩;have hjx:j<out.length:=by omega
  have MO:=G (fun(x:Rg) (hx:out[j]?=Z x) (h:¬qlo≤x.hi+1)=>MO.out (by omega) x (by rw[show out.length-1=j by omega];exact hx) (by omega));have MS:=G (fun(x:Rg) (hx:out[j]?=Z x) (h:qlo≤x.hi+1)=>(MS.out (by omega) x (by rw[show out.length-1=j by omega];exact hx) (by omega)));obtain⟨y,hy⟩:=sJ hjx;have hyo:=HOO.out y (List.mem_of_getElem? hy);unfold dI at hyo
  obtain⟨g,hS⟩:∃g,S'=Z ⟨g,0,N⟩:=by
   rcases HOA.out.2 with⟨_,h1⟩|⟨g,cap,cur,hv',_⟩
   ·omega
   injection hv' with hA' _ _;exact⟨g,hA'⟩
  subst hS;have gO:W2.heap.size≤g:=(HOA.out.lt g rfl).1;have gl:g<Wa.heap.size:=(HOA.out.lt g rfl).2;have y1:Wa.cell? ⟨g,j*2+1,N⟩=Z (I J y.hi):=by
   rw[World.ownsRow.cellAt HOA.out (j*2+1) (by omega),kG Rg.cells 2 (fun _=>rfl) out j 1 hjx (by omega),(List.getElem?_eq_some_iff.1 hy).2];rfl
  have f1:=World.ownsRow.frozenAt HOA.out (j*2+1);have HY:=G hy;have HJ:=G hj;have i0:decide ((0:Int)<(out.length:Int))=true:=by simp;omega
  have i1:IntKind.i64.wrap ((out.length:Int)-1)=(j:Int):=by rw[IntWalk.i64_in _ (by omega)];omega
  have i2:(0:Int)≤(j:Int):=by omega
  have i3:((j:Int)).toNat=j:=by omega
  have i4:(j:Int)<(out.length:Int):=by omega
  have i5:IntKind.i64.wrap (y.hi+1)=y.hi+1:=IntWalk.i64_in _ (by omega);have yhi:=hyo;clear hy hj MN;have HGB:=U (g<wr.heap.size) (HGW.out g rfl);by_cases hm:qlo≤y.hi+1
  ·have q1:decide (qlo≤y.hi+1)=true:=by simpa using hm
   have HMS2:=G (MS.out y HY.out hm);clear MO MS;go_quiet(fail);have x0q:(Wa.drewN nq).cell? ⟨wr.heap.size,0,N⟩=Z (I J qlo):=x0;have x1q:(Wa.drewN nq).cell? ⟨wr.heap.size,1,N⟩=Z (I J qhi):=x1;have HOQ:=U ((Wa.drewN nq).ownsRow W2.heap.size 126 2 (H (Z ⟨g,0,N⟩) out.length k') out.length (aI Rg.cells out)) HOA.out;have hb5:=bK hb4 nq;have hxq:wr.heap.size<(Wa.drewN nq).heap.size:=by show wr.heap.size<Wa.heap.size;omega
   clear HOA hb4 sa x0 x1;have y1q:(Wa.drewN nq).cell? ⟨g,j*2+1,N⟩=Z (I J y.hi):=y1;have f1q:(Wa.drewN nq).frozen? ⟨g,j*2+1,N⟩=false:=f1;clear y1 f1;generalize Wa.drewN nq=Wq at *;have hgne:¬g=wr.heap.size:=by have:=HGB.out;omega
   go_wp2_with fail;go_region
   all_goals
    have hmx:(if y.hi<qhi then qhi else y.hi)=max y.hi qhi:=by split<;>omega
    have st:=World.ownsRow.stored HOQ.out (j*2+1) (I J (if y.hi<qhi then qhi else y.hi));rw[sG out j _ HY.out]at st;have HST2:=G st.1;have hbs:=hb5.setCell (p:=⟨g,j*2+1,N⟩) gO (I J (if y.hi<qhi then qhi else y.hi));have HMX:=G hmx;clear st hmx;go_wp2_with fail;go_roundw
    case rel=>
     have e0:out.length-1=j:=by have:=HJ.out;omega
     have e1:=HMS2.out;rw[e0]at e1;subst e1;refine⟨i+1,Z ⟨g,0,N⟩,k',out.set j ⟨y.lo,max y.hi qhi⟩,qlo,by omega,by go_num,by rw[List.length_set],?_,by rw[List.length_set];omega,HMS.out,HBS.out,hbs.drew⟩;rw[List.length_set,←HMX.out];exact HST2.out
    simp[intOf];omega
  have q1:decide (qlo≤y.hi+1)=false:=by simpa using hm
  obtain rfl:=MO.out y HY.out hm;clear MO MS;go_quiet(fail);clear i0 i1 i2 i3 i4 i5 y1 f1;have x0q:(Wa.drewN nq).cell? ⟨wr.heap.size,0,N⟩=Z (I J qlo):=x0;have x1q:(Wa.drewN nq).cell? ⟨wr.heap.size,1,N⟩=Z (I J qhi):=x1;have HOQ:=U ((Wa.drewN nq).ownsRow W2.heap.size 126 2 (H (Z ⟨g,0,N⟩) out.length k') out.length (aI Rg.cells out)) HOA.out;have hb5:=bK hb4 nq;have hxq:wr.heap.size<(Wa.drewN nq).heap.size:=by show wr.heap.size<Wa.heap.size;omega
  clear HOA hb4 sa x0 x1;generalize Wa.drewN nq=Wq at *;have Bq:Below Wq.heap.size Wq (Wq.alloc (.cells #[I J qlo,I J qhi] 126)):=ba _ _;have HOP:=G (aN HOQ.out Bq);have hb6:=hb5.trans (Bq.mono hb5.size);have szp:W2.heap.size≤(Wq.alloc (.cells #[I J qlo,I J qhi] 126)).heap.size:=hb6.size;clear HOQ Bq;go_wp2_with(at_builtin;refine aJ _ _ 24 126 (.agg #[I J 0,I J 0]) 2 16 rfl rfl underlying24 mX rfl (by decide) (by decide) rfl HOP.out rfl (cK _ (Rg.cells ⟨qlo,qhi⟩) _ rfl) rfl (nD _) (by omega) szp ?_;intro A7 c7 w7 hown7 hc7 hb7 _ _;have HO7:=G hown7;clear hown7);go_roundw
  case rel=>exact⟨i+1,A7,c7,out++[⟨qlo,qhi⟩],qlo,by omega,by go_num,by rw[List.length_append];rfl,by rw[List.length_append,kF];exact HO7.out,by rw[List.length_append];simp;omega,HMS.out,HBS.out,hb6.trans hb7⟩
  simp[intOf];omega
 have hmg:=HMG.out;rw[List.take_of_length_le (show ds.length≤i by omega)]at hmg;obtain rfl:=HCO.out ds out b HST.out hmg;have hb6:=hb2.trans (hbr2.mono hb2.size);have hb7:=B0.trans (hb6.mono B0.size);have X9:=X0.below hb6 X0.lt;have z9:=X9.cell (i:=0) rfl;have f9:=X9.free 0;have hxr:=X9.lt;have hxw:w.heap.size<W2.heap.size:=by have:=hb2.size;omega
 have hbf:=hb7.setCell (p:=⟨w.heap.size,0,N⟩) (Nat.le_refl _) (H S' out.length k');have HRW:=G (Sl.of_own (pR HOWN.out (p:=⟨w.heap.size,0,N⟩) hxw (H S' out.length k')));have hc:=mI HOWN.out;clear HMG hmg HOWN HCO X9;go_wp2_with fail;(try simp only[Exit.inBlock,Exit.then]);refine bodyPost_ret (WA _ _ (b:=w.heap.size) (v0:=H S' out.length k') rfl (by go_simp)) rfl ?_;exact⟨S',k',rfl,hc,HRW.out,hbf⟩
end
end Go.Proofs.YtpfbnikbebccjaaGreatDoor
