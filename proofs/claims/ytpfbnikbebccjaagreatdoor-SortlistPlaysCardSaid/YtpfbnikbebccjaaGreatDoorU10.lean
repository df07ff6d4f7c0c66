import Derived.Test.YtpfbnikbebccjaaGreatDoorU00
import Derived.Test.YtpfbnikbebccjaaGreatDoorU01
import Derived.Test.YtpfbnikbebccjaaGreatDoorU02
import Derived.Test.YtpfbnikbebccjaaGreatDoorU05
import Derived.Test.YtpfbnikbebccjaaGreatDoorU09
set_option maxRecDepth 100000
set_option maxHeartbeats 51200000
namespace Go.Proofs.YtpfbnikbebccjaaGreatDoor
open Option renaming none->N,some->Z
open Value renaming int->I,slice->H
open IntKind renaming i64->J
open Go.Proofs.Tryz
section
open Go.RowKit Go.Maps Go.WideMaps
def iU(es:List Ent):Nat->Option Ent
 |0=>N
 |j+1=>es[j]?
def eB(base:Int)(es:List Ent)(i:Nat):Int:=
 match es[i]? with
 |none=>0
 |some x=>if cD base x≠0 then cD base x else match iU es i with
  |none=>0
  |some y=>if 0<=aD y.codes x.codes then 4 else 0
theorem xH(base:Int)(es:List Ent)(i:Nat)(hi:i<es.length):
  eW base (es.drop i) (iU es i)=if eB base es i≠0 then eB base es i else eW base (es.drop (i+1)) (iU es (i+1)):=by
 rw[List.drop_eq_getElem_cons hi];unfold eB;rw[List.getElem?_eq_getElem hi];have hp:iU es (i+1)=Z es[i]:=List.getElem?_eq_getElem hi;rw[hp];simp only[eW];by_cases h1:cD base es[i]=0
 ·simp only[h1,ne_eq,not_true_eq_false,if_false]
  cases iU es i with
  |none=>simp
  |some y=>
   simp only;by_cases h2:0<=aD y.codes es[i].codes
   ·simp[h2]
   simp[h2]
 simp[h1]
theorem xF(base:Int)(es:List Ent)(i:Nat)(hi:es.length<=i):eW base (es.drop i) (iU es i)=0:=by
 rw[List.drop_eq_nil_of_le hi];rfl
section
variable {base:Int}{es:List Ent}{i:Nat}
theorem xB(hi:i<es.length)(h:cD base es[i]≠0):eB base es i=cD base es[i]:=by
 unfold eB;rw[List.getElem?_eq_getElem hi];simp[h]
theorem xA(hi:0<es.length)(h:cD base es[0]=0):eB base es 0=0:=by
 unfold eB;rw[List.getElem?_eq_getElem hi];simp[h,iU]
theorem xC(hi:i+1<es.length)(h:cD base es[i+1]=0)(h4:0<=aD es[i].codes es[i+1].codes):eB base es (i+1)=4:=by
 unfold eB;rw[List.getElem?_eq_getElem hi];simp[h,iU,List.getElem?_eq_getElem (show i<es.length by omega),h4]
theorem xD(hi:i+1<es.length)(h:cD base es[i+1]=0)(h4:¬0<=aD es[i].codes es[i+1].codes):eB base es (i+1)=0:=by
 unfold eB;rw[List.getElem?_eq_getElem hi];simp[h,iU,List.getElem?_eq_getElem (show i<es.length by omega),h4]
end
structure bW(c:Col):Prop where
 e:∀i,(hi:i<c.ents.length)->c.ents[i].codes.length<=1048576/\c.ents[i].elems.length<=1048576
 n:c.ents.length<=1048576
 m:c.grps.length<=1048576
section
variable {c:Col}
theorem wL(h:c.base<1\/65502<c.base\/inR 1 65535 c.second=false\/inR 1 65535 c.third=false):aW c=1:=by unfold aW;rw[if_pos h]
theorem wN(h:¬(c.base<1\/65502<c.base\/inR 1 65535 c.second=false\/inR 1 65535 c.third=false))(hg:dI c.base c.grps≠0):aW c=dI c.base c.grps:=by
 unfold aW;rw[if_neg h,if_pos hg]
theorem wM(h:¬(c.base<1\/65502<c.base\/inR 1 65535 c.second=false\/inR 1 65535 c.third=false))(hg:dI c.base c.grps=0):aW c=eW c.base c.ents N:=by
 unfold aW;rw[if_neg h,if_neg (by simpa using hg)]
end
theorem rQ(A:Oa)(n a:Nat)(B:Oa)(m b:Nat)(c:Col)(w:Wv)(h:aU w A n B m c)(hz:bW c):
  Calls prog 36 #[aQ A n a B m b c] w (cA (aW c) w):=by
 have B0:By w (w.alloc (.cells #[H A n a,H B m b,I J c.base,I J c.second,I J c.third] 32)):=ba _ _;have H1:=G (wL (c:=c));have HG:=G (wN (c:=c));have HE:=G (wM (c:=c));have CG:=G (fun W(hb:By w W)(h65:c.base<=65502)=>IX A n a B m b c W (h.below hb) h65 (by rw[<-h.hm];exact hz.m));obtain⟨es,gs,base,second,third⟩:=c;dsimp only at *;unfold aQ at *;dsimp only at *;have CI:=G PG;have HEN:=G h.ents;have hnn:=h.hn;have HSZ:=G hz;dsimp only at hnn;subst hnn;clear h hz;by_cases q1:base<1
 ·have HQ:=G (H1.out (.inl q1))
  go_enter func36,ntmps36;go_wp2_with fail;go_ret;exact⟨aE HQ.out.symm,B0⟩
 by_cases q2:65502<base
 ·have HQ:=G (H1.out (.inr (.inl q2)))
  go_enter func36,ntmps36;go_wp2_with fail;go_ret;exact⟨aE HQ.out.symm,B0⟩
 cases q3:inR 1 65535 second
 ·have HQ:=G (H1.out (.inr (.inr (.inl q3))))
  go_enter func36,ntmps36;go_wp2_with fail;refine(CI.out second _).mono ?_;rw[q3];rintro e w' ⟨rfl,rfl⟩;go_wp2_with fail;go_ret;exact⟨aE HQ.out.symm,B0⟩
 cases q4:inR 1 65535 third
 ·have HQ:=G (H1.out (.inr (.inr (.inr q4))))
  go_enter func36,ntmps36;go_wp2_with fail;refine(CI.out second _).mono ?_;rw[q3];rintro e w' ⟨rfl,rfl⟩;go_wp2_with fail;refine(CI.out third _).mono ?_;rw[q4];rintro e w' ⟨rfl,rfl⟩;go_wp2_with fail;go_ret;exact⟨aE HQ.out.symm,B0⟩
 have hno:¬(base<1\/65502<base\/inR 1 65535 second=false\/inR 1 65535 third=false):=by rw[q3,q4];simp;omega
 have HG':=G (HG.out hno);have HE':=G (HE.out hno);clear HG HE H1 hno;go_enter func36,ntmps36;go_wp2_with fail;refine(CI.out second _).mono ?_;rw[q3];rintro e w' ⟨rfl,rfl⟩;go_wp2_with fail;refine(CI.out third _).mono ?_;rw[q4];rintro e w' ⟨rfl,rfl⟩;go_wp2_with fail;have s0:(w.alloc (.cells #[H A es.length a,H B m b,I J base,I J second,I J third] 32)).heap.size=w.heap.size+1:=by simp
 have k0:(w.alloc (.cells #[H A es.length a,H B m b,I J base,I J second,I J third] 32)).cell? ⟨w.heap.size,0,N⟩=Z (H A es.length a):=by simp
 have k2:(w.alloc (.cells #[H A es.length a,H B m b,I J base,I J second,I J third] 32)).cell? ⟨w.heap.size,2,N⟩=Z (I J base):=by simp
 obtain⟨W0,hW0⟩:∃W0,w.alloc (.cells #[H A es.length a,H B m b,I J base,I J second,I J third] 32)=W0:=⟨_,rfl⟩;rw[hW0]at B0 s0 k0 k2|-;clear hW0;have HEN0:=G (HEN.out.below B0);have K:=G (And.intro k0 k2);have hx0:w.heap.size<W0.heap.size:=by omega
 clear HEN k0 k2 s0 q3 q4 CI;refine(CG.out W0 B0 (by omega)).mono ?_;rintro e W1 ⟨rfl,hb1⟩;clear CG;by_cases hgz:dI base gs=0
 ·have g1:(dI base gs !=0)=false:=by simpa using hgz
  have HQ:=G (HE'.out hgz);clear hgz HG' HE';generalize dI base gs=ge at *;generalize aW ⟨es,gs,base,second,third⟩=R at *;have f0:=(hb1.cell (p:=⟨w.heap.size,0,N⟩) hx0).trans K.out.1;go_wp2_with fail;clear f0;go_loopw [4,5,6,35] (fun _ _ _ u wr=>∃i:Nat,i<=es.length/\u=I J i/\eW base es N=eW base (es.drop i) (iU es i)/\By W0 wr) (fun _ _ _ u _=>es.length-(intOf u).toNat)
  case atStart=>exact⟨0,Nat.zero_le _,rfl,rfl,hb1⟩
  obtain⟨i,hi,rfl,hen,hb⟩:=hrel;have HEE:=G hen;clear hen hb1;by_cases hlt:i<es.length
  ·obtain⟨b1,o1,rfl,hbl,hcell⟩:=(HEN0.out.below hb).at hlt
   obtain⟨C,cc,E,d,c1,c2,hC,hE⟩:=hcell i hlt;obtain⟨z1,z2⟩:=HSZ.out.e i hlt;dsimp only at z1 z2;have f2:=(hb.cell (p:=⟨w.heap.size,2,N⟩) hx0).trans K.out.2;have f0:=(hb.cell (p:=⟨w.heap.size,0,N⟩) hx0).trans K.out.1;have hx1:w.heap.size<wr.heap.size:=by have:=hb.size;omega
   have hnz:es.length<=1048576:=HSZ.out.n;have ST:=G (xH base es i hlt);have E1:=G (fun h=>xB (base:=base) hlt h)
   have HPV:=U (0<i->∃D dd,wr.cell? ⟨b1,o1+(i-1)*2,N⟩=Z (H D (es[i-1]'(by omega)).codes.length dd)/\aA wr D (es[i-1]'(by omega)).codes/\(es[i-1]'(by omega)).codes.length<=1048576/\(cD base es[i]=0->(0<=aD (es[i-1]'(by omega)).codes es[i].codes->eB base es i=4)/\(¬0<=aD (es[i-1]'(by omega)).codes es[i].codes->eB base es i=0))) (fun hp=>by
    obtain⟨j,rfl⟩:∃j,i=j+1:=⟨i-1,by omega⟩
    obtain⟨D,dd,_,_,e1,_,e3,_⟩:=hcell j (by omega)
    exact⟨D,dd,e1,e3,(HSZ.out.e j (show j<es.length by omega)).1,fun hz=>⟨fun h=>xC hlt hz h,fun h=>xD hlt hz h⟩⟩)
   have HP0:=G (show¬0<i->cD base es[i]=0->eB base es i=0 from fun hp hz=>by
    obtain rfl:i=0:=by omega
    exact xA hlt hz)
   have CE:=G (fun W(hb':By wr W)=>IW C cc E d es[i] base W (hC.below hb') (hE.below hb') z1 z2);clear hcell hE;generalize cD base es[i]=ev at *;generalize es[i].elems=els at *;generalize es[i].codes=cds at *;generalize eB base es i=ei at *;have hal:By wr (wr.alloc (.cells #[H C cds.length cc,H E els.length d] 109)):=ba _ _;have m0:(wr.alloc (.cells #[H C cds.length cc,H E els.length d] 109)).cell? ⟨wr.heap.size,0,N⟩=Z (H C cds.length cc):=by simp
   have HAL:=G (And.intro hal m0);clear hal m0;go_wp2_with fail;refine(CE.out _ HAL.out.1).mono ?_;rintro e w3 ⟨rfl,hb3⟩;have hb4:=HAL.out.1.trans (hb3.mono (by simp));have hb5:=hb.trans (hb4.mono hb.size);have m1:=(hb3.cell (p:=⟨wr.heap.size,0,N⟩) (by simp)).trans HAL.out.2;have f0':=(hb5.cell (p:=⟨w.heap.size,0,N⟩) hx0).trans K.out.1;clear HAL hb3 CE c1 c2 f0 f2;by_cases hev:ev=0
   ·have e1:(ev !=0)=false:=by simpa using hev
    by_cases hp:0<i
    ·obtain⟨D,dd,d1,hD,z3,hcmp⟩:=HPV.out hp
     have HCMP:=G (hcmp hev);have d1':=(hb4.cell (p:=⟨b1,o1+(i-1)*2,N⟩) (World.block_lt_of_cell? wr _ d1)).trans d1;have CC:=G (fun n=>oP D C _ _ dd cc _ cds (w3.drewN n) (Sl.drewN (hD.below hb4) n) (Sl.drewN (hC.below hb4) n) rfl rfl (by omega) (by omega));clear hcmp hev E1 HPV HP0 hD d1;generalize (es[i-1]'(by omega)).codes=pcs at *;generalize aD pcs cds=cv at *;have i1:(0:Int)<=(i:Int)-1:=by omega
     have i2:(i:Int)-1<(es.length:Int):=by omega
     have i3:((i:Int)-1).toNat=i-1:=by omega
     have w1:IntKind.i64.wrap ((i:Int)-1)=(i:Int)-1:=IntWalk.i64_in _ (by omega);by_cases hcv:0<=cv
     ·have q9:decide (0<=cv)=true:=by simpa using hcv
      have HV:=G (HCMP.out.1 (by omega));clear hcv HCMP;go_wp2_with fail;go_quiet((go_at_call 66;exact pV (CC.out _)));clear i3 w1;go_wp2_with fail;go_ret;exact⟨aE (by rw[HQ.out,HEE.out,ST.out,HV.out];rfl),B0.trans ((bP hb5 _).mono B0.size)⟩
     have q9:decide (0<=cv)=false:=by simpa using hcv
     have HV:=G (HCMP.out.2 (by omega));clear hcv HCMP;go_wp2_with fail;go_quiet((go_at_call 66;exact pV (CC.out _)));clear i3 w1;go_wp2_with fail;go_roundw
     case rel=>exact⟨i+1,by omega,by go_num,by rw[HEE.out,ST.out,HV.out];rfl,bP hb5 _⟩
     simp[intOf];omega
    have hp0:decide ((0:Int)<(i:Int))=false:=by simp;omega
    have HV:=G (HP0.out hp hev);clear hev E1 HPV HP0;go_wp2_with fail;go_quiet(fail);go_wp2_with fail;go_roundw
    case rel=>exact⟨i+1,by omega,by go_num,by rw[HEE.out,ST.out,HV.out];rfl,bP hb5 _⟩
    simp[intOf];omega
   have e1:(ev !=0)=true:=by simpa using hev
   have HV:=G (E1.out hev);have HZ:=G hev;clear hev E1 HPV HP0;go_wp2_with fail;go_ret;exact⟨aE (by rw[HQ.out,HEE.out,ST.out,HV.out,if_pos HZ.out]),B0.trans (hb5.mono B0.size)⟩
  have HF:=G (xF base es i (by omega));go_wp2;go_ret;exact⟨aE (by rw[HQ.out,HEE.out,HF.out]),B0.trans (hb.mono B0.size)⟩
 have g1:(dI base gs !=0)=true:=by simpa using hgz
 have HQ:=G (HG'.out hgz);clear hgz HG' HE';generalize dI base gs=ge at *;go_wp2_with fail;go_ret;exact⟨aE HQ.out.symm,B0.trans (hb1.mono B0.size)⟩
end
section
open Go.ChangeShapes Go.WideShapes Go.ChangeAt Go.RowKit
section
variable {H:Type}{enc:TypeId×Value->H}{w:Wv}{base:Nat}{spare:Nat->Bool}{held:Bool}{fuel:Nat}{cs:Lv}{x:DataW H×List MemPlace}
theorem ci:prog.cellsOf 3=1:=by kernel_rfl
theorem cs':prog.cellsOf 9=1:=by kernel_rfl
theorem cb':prog.cellsOf 4=1:=by kernel_rfl
theorem cI:prog.cellsOf 49=1:=by kernel_rfl
theorem cE:prog.cellsOf 107=1:=by kernel_rfl
theorem cN:prog.cellsOf 29=1:=by kernel_rfl
theorem cG:prog.cellsOf 30=1:=by kernel_rfl
theorem UI(h:DataW.trod enc prog w base spare held fuel 49 cs=Z x):
  ∃A len cap,∃l:Li,cs=[.slice A len cap]/\l.length=len/\len<=cap/\cap<=9223372036854775807/\aA w A l:=by
 obtain⟨A,len,cap,l,h1,h2,h3,h4,h5,_⟩:=jF (α:=Int) (fun z=>[I J z]) 1 (by omega) (fun _=>rfl) (fun _=>True) underlying49 ci (fun fuel cs x hl hx=>by
  obtain⟨z,hz,_,_⟩:=DataW.trod_int underlying3 hx
  exact⟨z,hz,trivial⟩) h
 refine⟨A,len,cap,l,h1,h2,h3,h4,?_⟩;unfold cV aF at h5;unfold aA;rw[show l.map (Value.int .i64)=l.flatMap (fun z=>[I J z]) by clear h2 h5;induction l<;>simp_all];exact h5
instance:Inhabited Grp:=⟨⟨.empty,0,0⟩⟩
instance:Inhabited Elt:=⟨⟨0,0,0,false⟩⟩
instance:Inhabited Ent:=⟨⟨[],[]⟩⟩
theorem UH(h:DataW.trod enc prog w base spare held fuel 30 cs=Z x):
  ∃A len cap,∃l:List Grp,cs=[.slice A len cap]/\l.length=len/\len<=cap/\cap<=9223372036854775807/\jK w A l/\∀g∈l,g.name.size<=9223372036854775807:=by
 refine jF (α:=Grp) Grp.cells 3 (by omega) (fun _=>rfl) (fun g=>g.name.size<=9223372036854775807) underlying30 (by kernel_rfl) (fun fuel cs x hl hx=>?_) h;obtain⟨xs,k,hk,hxy,_,hxl,hfs⟩:=DataW.trod_struct underlying130 hx;match xs,hxl,cs,hl with
 | [y0,y1,y2],_,[v0,v1,v2],_=>
  have g0:=hfs 0 _ rfl;have g1:=hfs 1 _ rfl;have g2:=hfs 2 _ rfl;simp[ci,cs']at g0 g1 g2;obtain⟨z0,e0,_,hs⟩:=DataW.trod_string underlying9 g0;obtain⟨z1,e1,_,_⟩:=DataW.trod_int underlying3 g1;obtain⟨z2,e2,_,_⟩:=DataW.trod_int underlying3 g2;simp at e0 e1 e2;subst e0;subst e1;subst e2;exact⟨⟨z0,z1,z2⟩,rfl,by unfold maxLen at hs;show z0.size<=_;omega⟩
theorem UE(h:DataW.trod enc prog w base spare held fuel 107 cs=Z x):
  ∃A len cap,∃l:List Elt,cs=[.slice A len cap]/\l.length=len/\len<=cap/\cap<=9223372036854775807/\cJ w A l/\∀_∈l,True:=by
 refine jF (α:=Elt) Elt.cells 4 (by omega) (fun _=>rfl) (fun _=>True) underlying107 (by kernel_rfl) (fun fuel cs x hl hx=>?_) h;obtain⟨xs,k,hk,hxy,_,hxl,hfs⟩:=DataW.trod_struct underlying106 hx;match xs,hxl,cs,hl with
 | [y0,y1,y2,y3],_,[v0,v1,v2,v3],_=>
  have g0:=hfs 0 _ rfl;have g1:=hfs 1 _ rfl;have g2:=hfs 2 _ rfl;have g3:=hfs 3 _ rfl;simp[ci,cb']at g0 g1 g2 g3;obtain⟨z0,e0,_,_⟩:=DataW.trod_int underlying3 g0;obtain⟨z1,e1,_,_⟩:=DataW.trod_int underlying3 g1;obtain⟨z2,e2,_,_⟩:=DataW.trod_int underlying3 g2;obtain⟨z3,e3,_⟩:=DataW.trod_bool underlying4 g3;simp at e0 e1 e2 e3;subst e0;subst e1;subst e2;subst e3;exact⟨⟨z0,z1,z2,z3⟩,rfl,trivial⟩
theorem UF(h:DataW.trod enc prog w base spare held fuel 29 cs=Z x):
  ∃A len cap,∃l:List Ent,cs=[.slice A len cap]/\l.length=len/\len<=cap/\cap<=9223372036854775807/\g_ w A l:=by
 have:Inhabited (Value×Value):=⟨(.bool false,.bool false)⟩
 obtain⟨A,len,cap,vs,h1,h2,h3,h4,h5,h6⟩:=jF (α:=Value×Value) (fun v=>[v.1,v.2]) 2 (by omega) (fun _=>rfl) (fun v=>∃x,lT w v x) underlying29 (by kernel_rfl) (fun fuel cs x hl hx=>by
  obtain⟨xs,k,hk,hxy,_,hxl,hfs⟩:=DataW.trod_struct underlying109 hx
  match xs,hxl,cs,hl with
  | [y0,y1],_,[v0,v1],_=>
   have g0:=hfs 0 _ rfl
   have g1:=hfs 1 _ rfl
   simp[cI,cE]at g0 g1
   obtain⟨A0,n0,c0,l0,e0,f0,_,_,i0⟩:=UI g0
   obtain⟨A1,n1,c1,l1,e1,f1,_,_,i1,_⟩:=UE g1
   simp at e0 e1
   subst e0;subst e1;subst f0;subst f1
   exact⟨(.slice A0 l0.length c0,.slice A1 l1.length c1),rfl,⟨l0,l1⟩,⟨A0,c0,A1,c1,rfl,i0,i1⟩⟩) h
 have each:∀i,i<vs.length->∃y:Ent,∀hv:i<vs.length,lT w vs[i] y:=fun i hi=>by
  obtain⟨y,hy⟩:=h6 _ (List.getElem_mem hi);exact⟨y,fun _=>hy⟩
 obtain⟨V,hV⟩:=Deep.choose_lt each;refine⟨A,len,cap,(List.range vs.length).map V,h1,by simpa using h2,h3,h4,vs,by simp,h5,fun i hi hv=>?_⟩;have:=hV i hv hv;simpa using this
end
end
section
open Go.RowKit
structure Opt where
 st:Int
 va:Int
 bk:Bool
 idn:Bool
 deriving DecidableEq
def iR(o:Opt):Bool:=decide (1<=o.st)&&decide (o.st<=4)&&(decide (1<=o.va)&&decide (o.va<=3))
def aN(o:Opt):Opt:=if iR o=true then o else⟨3,1,false,false⟩
theorem zV(o:Opt):iR (aN o)=true:=by
 unfold aN;split
 ·next h=>exact h
 rfl
theorem nI(o:Opt):(1<=(aN o).st/\(aN o).st<=4)/\(1<=(aN o).va/\(aN o).va<=3):=by
 have h:=zV o;unfold iR at h;simp at h;omega
def aC(a:Bool)(e:Elt):Bool:=if e.v=true\/e.p≠0 then e.v else a
def aG(e:Elt):Bool:=decide (e.p=0)&&decide (e.s=0)&&decide (e.t=0)
def aI(e:Elt)(k:Nat):Int:=if k=0 then e.p else if k=1 then e.s else if k=2 then e.t else 0
def wtE(va:Int)(a:Bool)(e:Elt)(k:Nat):Int:=
 if va=1 then(if k<3 then aI e k else if aG e=true then 0 else 65535)
 else if a=true then(if k=3/\va=3/\e.v=true then e.p else 0)
 else(if k<3 then aI e k else if va=3/\aG e=false then 65535 else 0)
def jA(a:Bool)(l:List Elt):Bool:=l.foldl aC a
def eN(va:Int):Bool->List Elt->List (Nat->Int)
 |_,[]=>[]
 |a,e::l=>wtE va (aC a e) e::eN va (aC a e) l
theorem mM(va:Int):∀(a:Bool)(l:List Elt),(eN va a l).length=l.length
 |_,[]=>rfl
 |a,e::l=>by unfold eN;rw[List.length_cons,mM va _ l,List.length_cons]
theorem EE(va:Int)(e:Elt):∀(a:Bool)(l:List Elt),eN va a (l++[e])=eN va a l++[wtE va (aC (jA a l) e) e]
 |_,[]=>rfl
 |a,x::l=>by
  rw[List.cons_append];unfold eN;rw[EE va e _ l];rfl
theorem EG(va:Int){l:List Elt}{i:Nat}(hi:i<l.length):eN va false (l.take (i+1))=eN va false (l.take i)++[wtE va (aC (jA false (l.take i)) l[i]) l[i]]:=by
 rw[List.take_succ_eq_append_getElem hi,EE]
theorem vD{l:List Elt}{i:Nat}(hi:i<l.length):jA false (l.take (i+1))=aC (jA false (l.take i)) l[i]:=by
 rw[List.take_succ_eq_append_getElem hi];unfold jA;rw[List.foldl_append];rfl
def eP(ws:List (Nat->Int))(k:Nat):Li:=(ws.map (fun w=>w k)).filter (fun x=>decide (x≠0))
theorem BJ(ws:List (Nat->Int))(w:Nat->Int)(k:Nat):eP (ws++[w]) k=eP ws k++if w k=0 then []else [w k]:=by
 unfold eP;rw[List.map_append,List.filter_append];congr 1;by_cases h:w k=0
 ·simp[h]
 simp[h]
theorem YR(ws:List (Nat->Int))(k:Nat):eP ws.reverse k=(eP ws k).reverse:=by
 unfold eP;rw[List.map_reverse,List.filter_reverse]
theorem qA(ws:List (Nat->Int))(k:Nat):(eP ws k).length<=ws.length:=by
 unfold eP;have:=List.length_filter_le (fun x=>decide (x≠0)) (ws.map (fun w=>w k));rw[List.length_map]at this;exact this
def jV(o:Opt)(es:List Elt)(k:Nat):Li:=if k=1/\o.bk=true then(eP (eN o.va false es) k).reverse else eP (eN o.va false es) k
def dW(o:Opt)(es:List Elt):List (Li):=(List.range o.st.toNat).map (jV o es)
theorem uK(o:Opt)(es:List Elt):(dW o es).length=o.st.toNat:=by unfold dW;simp
def cF:List (Li)->Li
 | []=>[]
 | [x]=>x
 |x::y::l=>x++0::cF (y::l)
theorem yI(y:Li):∀l:List (Li),cF (l++[y])=cF l++if l=[]then y else 0::y
 | []=>rfl
 | [x]=>rfl
 |x::z::l=>by
  have h:=yI y (z::l);rw[if_neg (by simp)]at h|-;show x++0::cF ((z::l)++[y])=(x++0::cF (z::l))++0::y
  rw[h];simp
theorem yJ{l:List (Li)}{i:Nat}(hi:i<l.length):cF (l.take (i+1))=(cF (l.take i)++if i=0 then []else [0])++l[i]:=by
 rw[List.take_succ_eq_append_getElem hi,yI];by_cases h:i=0
 ·subst h;simp
 ·rw[if_neg h,if_neg (by
   intro e
   have:=congrArg List.length e
   rw[List.length_take,List.length_nil]at this
   omega)]
  simp
def bT(d:Li):Li:=(d.filter (fun c=>decide (0<=c)&&decide (c<=1114111))).map (·+1)
theorem OJ(d:Li)(c:Int):bT (d++[c])=bT d++if 0<=c/\c<=1114111 then [c+1]else []:=by
 unfold bT;rw[List.filter_append,List.map_append];congr 1;by_cases h:0<=c/\c<=1114111
 ·simp[h]
 rw[if_neg h];have:(decide (0<=c)&&decide (c<=1114111))=false:=by
  rw[Bool.eq_false_iff];intro h2;simp at h2;exact h h2
 simp[List.filter,this]
def iP(o:Opt)(es:List Elt)(d:Li):Li:=cF (dW o es)++if o.idn=true then 0::bT d else []
theorem wK:∀xs ys:Li,aD xs ys=-1\/aD xs ys=0\/aD xs ys=1
 | [],[]=>.inr (.inl rfl)
 | [],_::_=>.inl rfl
 |_::_,[]=>.inr (.inr rfl)
 |a::p,b::q=>by
  simp only[aD];split
  ·exact .inl rfl
  split
  ·exact .inr (.inr rfl)
  exact wK p q
theorem lI:∀{xs ys zs:Li},aD xs ys<0->aD ys zs<0->aD xs zs<0
 | [],[],_,h,_=>by simp[aD]at h
 |_::_,[],_,h,_=>by simp[aD]at h
 |_,_::_,[],_,h=>by simp[aD]at h
 | [],_::_,_::_,_,_=>by simp[aD]
 |a::_,b::_,c::_,h1,h2=>by
  simp only[aD]at *;by_cases e1:a<b
  ·by_cases e2:b<c
   ·rw[if_pos (by omega)];omega
   rw[if_neg e2]at h2;by_cases e3:c<b
   ·rw[if_pos e3]at h2;omega
   rw[if_pos (by omega)];omega
  rw[if_neg e1]at h1;by_cases e4:b<a
  ·rw[if_pos e4]at h1;omega
  rw[if_neg e4]at h1;by_cases e2:b<c
  ·rw[if_pos (by omega)];omega
  rw[if_neg e2]at h2;by_cases e3:c<b
  ·rw[if_pos e3]at h2;omega
  rw[if_neg e3]at h2;rw[if_neg (by omega),if_neg (by omega)];exact lI h1 h2
theorem wJ(xs:Li):aD xs xs=0:=(iB xs xs).2 rfl
theorem JO{xs ys:Li}(h:aD xs ys<0):xs≠ys:=fun e=>by rw[e,wJ]at h;omega
end
namespace Pk
open Go.RowKit
theorem cmp_neg:∀u v:Li,aD u v=-aD v u
 | [],[]=>rfl
 | [],_::_=>rfl
 |_::_,[]=>rfl
 |a::u,b::v=>by
  unfold aD;by_cases h:a<b
  ·rw[if_pos h,if_neg (by omega),if_pos h]
  rw[if_neg h];by_cases h2:b<a
  ·rw[if_pos h2,if_pos h2];rfl
  rw[if_neg h2,if_neg h2,if_neg h,cmp_neg u v]
def fst(u:Li):Int:=u.head?.getD 0
def low(m:Int)(q:Nat):Li:=if q=0 then []else [m+q-1]
def Te(s t:Li):Prop:=(s=[]/\t=[])\/∃a b,s=0::a/\t=0::b
theorem Te.fst{s t:Li}(h:Te s t):Pk.fst s=0/\Pk.fst t=0:=by
 rcases h with⟨rfl,rfl⟩|⟨a,b,rfl,rfl⟩<;>exact⟨rfl,rfl⟩
section
variable {m:Int}
end
def b4(x:Int):Li:=[x/16777216,x/65536%256,x/256%256,x%256]
def vb(x:Int):Li:=if x<64 then [x]else if x<16384 then [64+x/256,x%256]else [128,x/65536,x/256%256,x%256]
end Pk
namespace Srl
open Go.RowKit
abbrev It:=Li×Int
def ltI(x y:It):Prop:=aD x.1 y.1<0\/(aD x.1 y.1=0/\x.2<y.2)
instance (x y:It):Decidable (ltI x y):=by unfold ltI;infer_instance
theorem ltI_irrefl(x:It):¬ltI x x:=by
 rintro(h|⟨_,h⟩)
 ·rw[wJ]at h;omega
 omega
theorem ltI_trans{x y z:It}(h:ltI x y)(g:ltI y z):ltI x z:=by
 rcases h with h|⟨h1,h2⟩
 ·rcases g with g|⟨g1,g2⟩
  ·exact .inl (lI h g)
  rw[iB]at g1;exact .inl (by rw[<-g1];exact h)
 rw[iB]at h1;rcases g with g|⟨g1,g2⟩
 ·exact .inl (by rw[h1];exact g)
 exact .inr ⟨by rw[h1];exact g1,by omega⟩
theorem ltI_total{x y:It}(h:x≠y):ltI x y\/ltI y x:=by
 rcases wK x.1 y.1 with e|e|e
 ·exact .inl (.inl (by omega))
 ·rcases Int.lt_trichotomy x.2 y.2 with g|g|g
  ·exact .inl (.inr ⟨e,g⟩)
  ·exact absurd (Prod.ext ((iB _ _).1 e) g) h
  exact .inr (.inr ⟨by rw[Pk.cmp_neg,e];rfl,g⟩)
 exact .inr (.inl (by rw[Pk.cmp_neg,e];omega))
theorem asc_unique:∀{L M:List It},L.Pairwise ltI->M.Pairwise ltI->(∀t,t∈L ↔ t∈M)->L=M
 | [],[],_,_,_=>rfl
 | [],y::M,_,_,h=>by have:=(h y).2 (by simp);cases this
 |x::L,[],_,_,h=>by have:=(h x).1 (by simp);cases this
 |x::L,y::M,hL,hM,h=>by
  rw[List.pairwise_cons]at hL hM;have hxy:x=y:=by
   rcases List.mem_cons.1 ((h x).1 (by simp))with e|e
   ·exact e
   rcases List.mem_cons.1 ((h y).2 (by simp))with e'|e'
   ·exact e'.symm
   exact absurd (ltI_trans (hM.1 x e) (hL.1 y e')) (ltI_irrefl _)
  subst hxy;rw[asc_unique hL.2 hM.2 (fun t=>?_)];have:=h t;simp only[List.mem_cons]at this;constructor
  ·intro ht
   rcases this.1 (.inr ht)with e|e
   ·subst e;exact absurd (hL.1 t ht) (ltI_irrefl _)
   exact e
  intro ht;rcases this.2 (.inr ht)with e|e
  ·subst e;exact absurd (hM.1 t ht) (ltI_irrefl _)
  exact e
section
variable {α:Type}{p:α->Bool}
theorem cnt_le(l:List α):l.countP p<=l.length:=List.countP_le_length
theorem cnt_iff:∀{l:List α},l.Pairwise (fun a b=>p b=true->p a=true)->∀i,(hi:i<l.length)->(p l[i]=true ↔ i<l.countP p)
 | [],_,i,hi=>by simp at hi
 |a::l,h,i,hi=>by
  rw[List.pairwise_cons]at h;by_cases ha:p a=true
  ·rw[List.countP_cons_of_pos ha]
   cases i with
   |zero=>simp[ha]
   |succ i=>
    rw[List.getElem_cons_succ,cnt_iff h.2 i (by simpa using hi)];omega
  have hz:l.countP p=0:=by
   rw[List.countP_eq_zero];intro b hb hp;exact ha (h.1 b hb hp)
  rw[List.countP_cons_of_neg ha,hz];cases i with
  |zero=>simp[ha]
  |succ i=>
   rw[List.getElem_cons_succ,cnt_iff h.2 i (by simpa using hi),hz];omega
theorem cnt_take:∀{l:List α},l.Pairwise (fun a b=>p b=true->p a=true)->l.take (l.countP p)=l.filter p
 | [],_=>rfl
 |a::l,h=>by
  rw[List.pairwise_cons]at h;by_cases ha:p a=true
  ·rw[List.countP_cons_of_pos ha,List.take_succ_cons,cnt_take h.2,List.filter_cons_of_pos ha]
  have hz:l.countP p=0:=by
   rw[List.countP_eq_zero];intro b hb hp;exact ha (h.1 b hb hp)
  rw[List.countP_cons_of_neg ha,hz,List.take_zero,List.filter_cons_of_neg ha];symm;rw[List.filter_eq_nil_iff];intro b hb hp;exact ha (h.1 b hb hp)
theorem cnt_drop:∀{l:List α},l.Pairwise (fun a b=>p b=true->p a=true)->l.drop (l.countP p)=l.filter (fun x=>!p x)
 | [],_=>rfl
 |a::l,h=>by
  rw[List.pairwise_cons]at h;by_cases ha:p a=true
  ·rw[List.countP_cons_of_pos ha,List.drop_succ_cons,cnt_drop h.2,List.filter_cons_of_neg (by simp[ha])]
  have hz:l.countP p=0:=by
   rw[List.countP_eq_zero];intro b hb hp;exact ha (h.1 b hb hp)
  rw[List.countP_cons_of_neg ha,hz,List.drop_zero];symm;rw[List.filter_eq_self];intro b hb;rcases List.mem_cons.1 hb with rfl|hb
  ·simp[ha]
  have:¬p b=true:=fun hp=>ha (h.1 b hb hp)
  simp[this]
end
def plc(l:List It)(x:It):Nat:=l.countP (fun y=>decide (ltI y x))
theorem plc_pw{l:List It}(h:l.Pairwise ltI)(x:It):l.Pairwise (fun a b=>decide (ltI b x)=true->decide (ltI a x)=true):=
 h.imp (fun hab hb=>by simp at hb|-;exact ltI_trans hab hb)
theorem plc_iff{l:List It}(h:l.Pairwise ltI)(x:It)(i:Nat)(hi:i<l.length):ltI l[i] x ↔ i<plc l x:=by
 unfold plc;have:=cnt_iff (plc_pw h x) i hi;simpa using this
theorem plc_at{l:List It}(h:l.Pairwise ltI){i:Nat}(hi:i<l.length):plc l l[i]=i:=by
 have h1:=(plc_iff h l[i] i hi);have h2:¬i<plc l l[i]:=fun g=>ltI_irrefl _ (h1.2 g)
 rcases Nat.lt_or_ge (plc l l[i]) i with g|g
 ·exfalso
  have h3:=(plc_iff h l[i] (plc l l[i]) (by omega)).1 (List.pairwise_iff_getElem.1 h _ _ (by omega) hi g);omega
 omega
def ins(l:List It)(x:It):List It:=l.take (plc l x)++x::l.drop (plc l x)
theorem ins_len{l:List It}{x:It}:(ins l x).length=l.length+1:=by
 unfold ins;rw[List.length_append,List.length_cons,List.length_take,List.length_drop];have:plc l x<=l.length:=cnt_le _;omega
theorem ins_asc{l:List It}{x:It}(h:l.Pairwise ltI)(hx:x ∉ l):(ins l x).Pairwise ltI:=by
 unfold ins;have hp:=h;rw[<-List.take_append_drop (plc l x) l,List.pairwise_append]at hp;rw[List.pairwise_append,List.pairwise_cons]
 have h1:∀y∈l.take (plc l x),ltI y x:=fun y hy=>by
  have e:l.take (plc l x)=l.filter (fun y=>decide (ltI y x)):=cnt_take (plc_pw h x);rw[e]at hy;have:=(List.mem_filter.1 hy).2;simpa using this
 have h2:∀y∈l.drop (plc l x),ltI x y:=fun y hy=>by
  have e:l.drop (plc l x)=l.filter (fun y=>!decide (ltI y x)):=cnt_drop (plc_pw h x);rw[e]at hy;obtain⟨hm,hn⟩:=List.mem_filter.1 hy;have hne:x≠y:=fun e=>hx (by rw[e];exact hm)
  rcases ltI_total hne with g|g
  ·exact g
  simp at hn;exact absurd g hn
 refine⟨hp.1,⟨h2,hp.2.1⟩,fun a ha b hb=>?_⟩;rcases List.mem_cons.1 hb with rfl|hb
 ·exact h1 a ha
 exact ltI_trans (h1 a ha) (h2 b hb)
def frm(l:List It)(k:Li):Nat:=l.countP (fun y=>decide (aD y.1 k<0))
theorem frm_pw{l:List It}(h:l.Pairwise ltI)(k:Li):l.Pairwise (fun a b=>decide (aD b.1 k<0)=true->decide (aD a.1 k<0)=true):=
 h.imp (fun{a b}hab hb=>by
  simp at hb|-
  rcases hab with g|⟨g,_⟩
  ·exact lI g hb
  ·rw[iB]at g;rw[g];exact hb)
theorem frm_iff{l:List It}(h:l.Pairwise ltI)(k:Li)(i:Nat)(hi:i<l.length):aD l[i].1 k<0 ↔ i<frm l k:=by
 unfold frm;have:=cnt_iff (frm_pw h k) i hi;simpa using this
def btw(l:List It)(a b:Li):List It:=l.filter (fun y=>decide (0<=aD y.1 a)&&decide (aD y.1 b<0))
theorem frm_mono{l:List It}{a b:Li}(h:aD a b<=0):frm l a<=frm l b:=by
 unfold frm;refine List.countP_mono_left fun x _ hx=>?_
 simp at hx|-;rcases Int.lt_or_eq_of_le h with g|g
 ·exact lI hx g
 rw[iB]at g;rw[<-g];exact hx
theorem btw_cut{l:List It}(h:l.Pairwise ltI){a b:Li}(hab:frm l a<=frm l b):(l.take (frm l b)).drop (frm l a)=btw l a b:=by
 have e1:l.take (frm l b)=l.filter (fun y=>decide (aD y.1 b<0)):=cnt_take (frm_pw h b);have hp:(l.filter (fun y=>decide (aD y.1 b<0))).Pairwise ltI:=h.filter _;have e2:frm l a=frm (l.filter (fun y=>decide (aD y.1 b<0))) a:=by
  rw[<-e1];unfold frm at hab|-;have hsum:l.countP (fun y=>decide (aD y.1 a<0))=(l.take (l.countP (fun y=>decide (aD y.1 b<0)))).countP (fun y=>decide (aD y.1 a<0))+(l.drop (l.countP (fun y=>decide (aD y.1 b<0)))).countP (fun y=>decide (aD y.1 a<0)):=by
   rw[<-List.countP_append,List.take_append_drop]
  have hz:(l.drop (l.countP (fun y=>decide (aD y.1 b<0)))).countP (fun y=>decide (aD y.1 a<0))=0:=by
   rw[List.countP_eq_zero];intro y hy hlt;obtain⟨j,hj,rfl⟩:=List.mem_iff_getElem.1 hy;rw[List.length_drop]at hj;rw[List.getElem_drop]at hlt;have hlt':aD (l[l.countP (fun y=>decide (aD y.1 b<0))+j]'(by omega)).1 a<0:=by simpa using hlt
   have:=(frm_iff h a (l.countP (fun y=>decide (aD y.1 b<0))+j) (by omega)).1 hlt';unfold frm at this;omega
  omega
 rw[e1,e2];have e3:(l.filter (fun y=>decide (aD y.1 b<0))).drop (frm (l.filter (fun y=>decide (aD y.1 b<0))) a)=(l.filter (fun y=>decide (aD y.1 b<0))).filter (fun x=>!decide (aD x.1 a<0)):=cnt_drop (frm_pw hp a);rw[e3,List.filter_filter];unfold btw;refine List.filter_congr fun y _=>?_
 rw[Bool.eq_iff_iff];simp
end Srl
namespace Srl
open Go.RowKit
theorem cut_filter{α:Type}{p q r:α->Bool}{l:List α}(hp:l.Pairwise (fun a b=>p b=true->p a=true))(hq:l.Pairwise (fun a b=>q b=true->q a=true))(hle:l.countP q<=l.countP p)(hr:∀x,r x=(p x&&!q x)):(l.take (l.countP p)).drop (l.countP q)=l.filter r:=by
 have hqp:∀a∈l,q a=true->p a=true:=by
  intro a ha hqa;obtain⟨i,hi,rfl⟩:=List.mem_iff_getElem.1 ha;have:=(cnt_iff hq i hi).1 hqa;exact(cnt_iff hp i hi).2 (by omega)
 have e1:l.countP q=(l.filter p).countP q:=by
  rw[List.countP_filter];refine List.countP_congr fun a ha=>?_
  constructor
  ·intro h;simp[h,hqp a ha h]
  intro h;simp at h;exact h.1
 rw[cnt_take hp,e1,cnt_drop (hq.filter _),List.filter_filter];refine List.filter_congr fun a _=>?_
 rw[hr,Bool.and_comm]
abbrev Its:=List (Int×Li)
section
variable (K:Li->Li)
def kI(p:Int×Li):It:=(K p.2,p.1)
def kL(L:Its):List It:=L.map (kI K)
def idsL(L:Its):Li:=L.map Prod.fst
def remL(L:Its)(id:Int):Its:=L.filter (fun p=>decide (p.1≠id))
def atL(L:Its)(id:Int)(t:Li):Nat:=plc (kL K (remL L id)) (K t,id)
def putL(L:Its)(id:Int)(t:Li):Its:=(remL L id).take (atL K L id t)++(id,t)::(remL L id).drop (atL K L id t)
def getL:Its->Int->Option (Li)
 | [],_=>N
 |p::L,id=>if p.1=id then Z p.2 else getL L id
def posL:Its->Int->Int
 | [],_=>-1
 |p::L,id=>if p.1=id then 0 else if posL L id=-1 then -1 else posL L id+1
def lookL(L:Its)(t:Li):Its:=L.filter (fun p=>decide (aD (K p.2) (K t)=0))
def btwL(L:Its)(a b:Li):Its:=L.filter (fun p=>decide (0<=aD (K p.2) (K a))&&decide (aD (K p.2) (K b)<0))
structure Srt(L:Its):Prop where
 asc:(kL K L).Pairwise ltI
 one:(idsL L).Nodup
end
section
variable {K:Li->Li}{L:Its}
theorem kL_len:(kL K L).length=L.length:=by simp[kL]
theorem kL_get(i:Nat)(hi:i<L.length):(kL K L)[i]'(by rw[kL_len];exact hi)=(K L[i].2,L[i].1):=by simp[kL,kI]
theorem idsL_len:(idsL L).length=L.length:=by simp[idsL]
theorem getL_none{id:Int}:getL L id=N ↔ id ∉ idsL L:=by
 induction L with
 |nil=>simp[getL,idsL]
 |cons p L ih=>
  unfold getL;by_cases e:p.1=id
  ·rw[if_pos e];simp[idsL,e]
  rw[if_neg e,ih];simp only[idsL,List.map_cons,List.mem_cons,not_or];exact⟨fun h=>⟨fun q=>e q.symm,h⟩,fun h=>h.2⟩
theorem getL_mem{id:Int}{t:Li}(hn:(idsL L).Nodup)(h:(id,t)∈L):getL L id=Z t:=by
 induction L with
 |nil=>cases h
 |cons p L ih=>
  unfold getL;simp only[idsL,List.map_cons,List.nodup_cons]at hn;rcases List.mem_cons.1 h with e|e
  ·subst e;rw[if_pos rfl]
  rw[if_neg (fun q=>hn.1 (by rw[q];exact List.mem_map_of_mem (f:=Prod.fst) e))];exact ih hn.2 e
theorem posL_none{id:Int}(h:id ∉ idsL L):posL L id=-1:=by
 induction L with
 |nil=>rfl
 |cons p L ih=>
  simp[idsL]at h;unfold posL;rw[if_neg (fun q=>h.1 q.symm),ih (by simpa[idsL]using h.2),if_pos rfl]
theorem posL_at(hn:(idsL L).Nodup){i:Nat}(hi:i<L.length):posL L L[i].1=i:=by
 induction L generalizing i with
 |nil=>simp at hi
 |cons p L ih=>
  simp only[idsL,List.map_cons,List.nodup_cons]at hn;unfold posL;cases i with
  |zero=>simp
  |succ i=>
   have hi':i<L.length:=by simpa using hi
   have hne:¬p.1=L[i].1:=fun q=>hn.1 (by rw[q];exact List.mem_map_of_mem (f:=Prod.fst) (List.getElem_mem hi'))
   rw[List.getElem_cons_succ,if_neg hne,ih hn.2 hi',if_neg (by omega)];omega
theorem remL_none{id:Int}(h:id ∉ idsL L):remL L id=L:=by
 unfold remL;rw[List.filter_eq_self];intro p hp;simp;rintro rfl;exact h (List.mem_map_of_mem (f:=Prod.fst) hp)
theorem remL_at(hn:(idsL L).Nodup){i:Nat}(hi:i<L.length):remL L L[i].1=L.take i++L.drop (i+1):=by
 induction L generalizing i with
 |nil=>simp at hi
 |cons p L ih=>
  simp only[idsL,List.map_cons,List.nodup_cons]at hn;cases i with
  |zero=>
   unfold remL;rw[List.getElem_cons_zero,List.filter_cons_of_neg (by simp)];rw[List.take_zero,List.nil_append,List.drop_succ_cons,List.drop_zero,List.filter_eq_self];intro q hq;simp only[decide_eq_true_eq];intro e;exact hn.1 (by rw[<-e];exact List.mem_map_of_mem (f:=Prod.fst) hq)
  |succ i=>
   have hi':i<L.length:=by simpa using hi
   have hne:¬p.1=L[i].1:=fun q=>hn.1 (by rw[q];exact List.mem_map_of_mem (f:=Prod.fst) (List.getElem_mem hi'))
   have:=ih hn.2 hi';unfold remL at this|-;rw[List.getElem_cons_succ,List.filter_cons_of_pos (by simpa using hne),this];rfl
theorem remL_ids{id:Int}:idsL (remL L id)=(idsL L).filter (fun z=>decide (z≠id)):=by
 unfold idsL remL;rw[List.filter_map];rfl
theorem remL_not{id:Int}:id ∉ idsL (remL L id):=by
 rw[remL_ids];simp
theorem remL_mem{id:Int}{p:Int×Li}:p∈remL L id ↔ p∈L/\p.1≠id:=by
 unfold remL;rw[List.mem_filter];simp
theorem remL_len{id:Int}:(remL L id).length<=L.length:=List.length_filter_le _ _
theorem remL_len1(hn:(idsL L).Nodup){id:Int}(h:id∈idsL L):(remL L id).length+1=L.length:=by
 obtain⟨p,hp,rfl⟩:=List.mem_map.1 h;obtain⟨i,hi,rfl⟩:=List.mem_iff_getElem.1 hp;rw[remL_at hn hi];simp;omega
theorem remL_srt(h:Srt K L)(id:Int):Srt K (remL L id):=by
 refine⟨?_,?_⟩
 ·have:kL K (remL L id)=(kL K L).filter (fun z=>decide (z.2≠id)):=by
   unfold kL remL;rw[List.filter_map];rfl
  rw[this];exact h.asc.filter _
 rw[remL_ids];exact h.one.filter _
theorem kL_mem{z:It}:z∈kL K L ↔ ∃p∈L,kI K p=z:=List.mem_map
theorem kL_not{k:Li}{id:Int}(h:id ∉ idsL L):(k,id) ∉ kL K L:=by
 intro hm;obtain⟨p,hp,e⟩:=kL_mem.1 hm;injection e with _ e;exact h (by rw[<-e];exact List.mem_map_of_mem (f:=Prod.fst) hp)
theorem putL_k(L:Its)(id:Int)(t:Li):kL K (putL K L id t)=ins (kL K (remL L id)) (K t,id):=by
 unfold kL putL ins atL kL;rw[List.map_append,List.map_cons,List.map_take,List.map_drop];rfl
theorem putL_mem{id:Int}{t:Li}{p:Int×Li}:p∈putL K L id t ↔ p=(id,t)\/(p∈L/\p.1≠id):=by
 unfold putL;rw[List.mem_append,List.mem_cons];conv=>rhs;rw[<-remL_mem,<-List.take_append_drop (atL K L id t) (remL L id),List.mem_append]
 constructor
 ·rintro(h|h|h)
  ·exact .inr (.inl h)
  ·exact .inl h
  exact .inr (.inr h)
 rintro(h|h|h)
 ·exact .inr (.inl h)
 ·exact .inl h
 exact .inr (.inr h)
theorem putL_srt(h:Srt K L)(id:Int)(t:Li):Srt K (putL K L id t):=by
 have hr:=remL_srt h id;refine⟨?_,?_⟩
 ·rw[putL_k]
  exact ins_asc hr.asc (kL_not remL_not)
 unfold putL idsL;rw[List.map_append,List.map_cons];have hp:((remL L id).take (atL K L id t)++(remL L id).drop (atL K L id t))=remL L id:=List.take_append_drop _ _;have h1:=hr.one;have h2:id ∉ idsL (remL L id):=remL_not;unfold idsL at h1 h2;rw[<-hp,List.map_append]at h1 h2;rw[List.nodup_append]at h1|-;rw[List.mem_append,not_or]at h2;refine⟨h1.1,List.nodup_cons.2 ⟨h2.2,h1.2.1⟩,fun a ha b hb=>?_⟩;rcases List.mem_cons.1 hb with e|e
 ·intro e'
  have e2:a=id:=e'.trans e;exact h2.1 (by rw[<-e2];rw[e2]at ha|-;exact ha)
 exact h1.2.2 a ha b e
theorem putL_len{id:Int}{t:Li}:(putL K L id t).length=(remL L id).length+1:=by
 have:=congrArg List.length (putL_k (K:=K) L id t);rw[ins_len,kL_len,kL_len]at this;exact this
theorem atL_le{id:Int}{t:Li}:atL K L id t<=(remL L id).length:=by
 unfold atL plc;exact Nat.le_trans (cnt_le _) (by rw[kL_len];exact Nat.le_refl _)
theorem srt_nil:Srt K []:=⟨List.Pairwise.nil,List.nodup_nil⟩
theorem posL_plc(h:Srt K L){id:Int}{t:Li}(hm:(id,t)∈L):posL L id=(plc (kL K L) (K t,id):Nat)/\plc (kL K L) (K t,id)<L.length:=by
 obtain⟨i,hi,e⟩:=List.mem_iff_getElem.1 hm;have h1:=plc_at h.asc (i:=i) (by rw[kL_len];exact hi);rw[kL_get i hi,e]at h1;have h2:=posL_at h.one hi;rw[e]at h2;dsimp only at h1 h2;rw[h2,h1];exact⟨rfl,hi⟩
def fle(l:List It)(k:Li):Nat:=l.countP (fun y=>decide (aD y.1 k<=0))
theorem fle_pw{l:List It}(h:l.Pairwise ltI)(k:Li):l.Pairwise (fun a b=>decide (aD b.1 k<=0)=true->decide (aD a.1 k<=0)=true):=
 h.imp (fun{a b}hab hb=>by
  simp at hb|-
  rcases hab with g|⟨g,_⟩
  ·rcases Int.lt_or_eq_of_le hb with q|q
   ·have:=lI g q;omega
   rw[iB]at q;rw[<-q];omega
  ·rw[iB]at g;rw[g];exact hb)
theorem fle_iff{l:List It}(h:l.Pairwise ltI)(k:Li)(i:Nat)(hi:i<l.length):aD l[i].1 k<=0 ↔ i<fle l k:=by
 unfold fle;have:=cnt_iff (fle_pw h k) i hi;simpa using this
theorem frm_fle(l:List It)(k:Li):frm l k<=fle l k:=by
 unfold frm fle;refine List.countP_mono_left fun x _ hx=>?_
 simp at hx|-;omega
theorem look_cut(h:Srt K L)(t:Li):(L.take (fle (kL K L) (K t))).drop (frm (kL K L) (K t))=lookL K L t:=by
 have e1:∀(n m:Nat),kL K ((L.take n).drop m)=((kL K L).take n).drop m:=fun n m=>by unfold kL;rw[List.map_drop,List.map_take]
 have e0:∀(p:Int×Li->Bool),L.filter p=L.filter p:=fun _=>rfl
 have hp1:L.Pairwise (fun a b=>decide (aD (K b.2) (K t)<=0)=true->decide (aD (K a.2) (K t)<=0)=true):=by
  have:=fle_pw h.asc (K t);unfold kL at this;rw[List.pairwise_map]at this;exact this
 have hp2:L.Pairwise (fun a b=>decide (aD (K b.2) (K t)<0)=true->decide (aD (K a.2) (K t)<0)=true):=by
  have:=frm_pw h.asc (K t);unfold kL at this;rw[List.pairwise_map]at this;exact this
 have c1:fle (kL K L) (K t)=L.countP (fun p=>decide (aD (K p.2) (K t)<=0)):=by unfold fle kL;rw[List.countP_map];rfl
 have c2:frm (kL K L) (K t)=L.countP (fun p=>decide (aD (K p.2) (K t)<0)):=by unfold frm kL;rw[List.countP_map];rfl
 have hle:=frm_fle (kL K L) (K t);rw[c1,c2]at hle|-;exact cut_filter hp1 hp2 hle (fun p=>by by_cases e:aD (K p.2) (K t)=0<;>by_cases g:aD (K p.2) (K t)<0<;>by_cases q:aD (K p.2) (K t)<=0<;>simp_all<;>omega)
end
end Srl
namespace Srl
open Go.RowKit
structure Stp where
 id:Int
 text:Li
 rm:Bool
 ask:Li
section
variable (K:Li->Li)
def stepL(L:Its)(s:Stp):Its:=if s.rm=true then remL L s.id else putL K L s.id s.text
def runL(L:Its)(l:List Stp):Its:=l.foldl (stepL K) L
end
section
variable {K:Li->Li}
theorem stepL_srt{L:Its}(h:Srt K L)(s:Stp):Srt K (stepL K L s):=by
 unfold stepL;split
 ·exact remL_srt h _
 exact putL_srt h _ _
theorem runL_srt:∀(l:List Stp){L:Its},Srt K L->Srt K (runL K L l)
 | [],_,h=>h
 |s::l,_,h=>runL_srt l (stepL_srt h s)
theorem runL_app(L:Its)(l m:List Stp):runL K L (l++m)=runL K (runL K L l) m:=List.foldl_append
theorem runL_take(L:Its)(l:List Stp)(i:Nat)(hi:i<l.length):runL K L (l.take (i+1))=stepL K (runL K L (l.take i)) l[i]:=by
 rw[List.take_succ_eq_append_getElem hi,runL_app];rfl
theorem stepL_len(L:Its)(s:Stp):(stepL K L s).length<=L.length+1:=by
 unfold stepL;split
 ·exact Nat.le_succ_of_le remL_len
 rw[putL_len];have:=remL_len (L:=L) (id:=s.id);omega
theorem runL_len:∀(l:List Stp)(L:Its),(runL K L l).length<=L.length+l.length
 | [],_=>Nat.le_refl _
 |s::l,L=>by
  have h1:=runL_len l (stepL K L s);have h2:=stepL_len (K:=K) L s;rw[List.length_cons];show(runL K (stepL K L s) l).length<=_
  omega
theorem stepL_mem{L:Its}{s:Stp}{p:Int×Li}:p∈stepL K L s ↔ (s.rm=false/\p=(s.id,s.text))\/(p∈L/\p.1≠s.id):=by
 unfold stepL;cases h:s.rm with
 |true=>
  rw[if_pos rfl,remL_mem];simp
 |false=>
  rw[if_neg (by decide),putL_mem];simp
def cntL:List Stp->Nat
 | []=>0
 |s::l=>(if(l.all fun s'=>decide (s'.id≠s.id))&&!s.rm then 1 else 0)+cntL l
theorem cntL_cons(s:Stp)(l:List Stp):cntL (s::l)=(if(l.all fun s'=>decide (s'.id≠s.id))&&!s.rm then 1 else 0)+cntL l:=rfl
theorem rem_cnt(L:Its)(id:Int)(q:Int->Bool):(idsL (remL L id)).countP q=(idsL L).countP (fun z=>q z&&decide (z≠id)):=by
 rw[remL_ids,List.countP_filter]
theorem put_cnt(L:Its)(id:Int)(t:Li)(q:Int->Bool):(idsL (putL K L id t)).countP q=(idsL L).countP (fun z=>q z&&decide (z≠id))+(if q id=true then 1 else 0):=by
 unfold putL;rw[<-rem_cnt L id q];conv=>rhs;rw[<-List.take_append_drop (atL K L id t) (remL L id)]
 simp only[idsL,List.map_append,List.map_cons,List.countP_append,List.countP_cons];omega
theorem runL_cnt:∀(l:List Stp){L:Its},Srt K L->(runL K L l).length=cntL l+(idsL L).countP (fun z=>l.all fun s=>decide (s.id≠z))
 | [],L,h=>by
  simp[runL,cntL,idsL]
 |s::l,L,h=>by
  have ih:=runL_cnt l (stepL_srt h s);show(runL K (stepL K L s) l).length=_
  rw[ih];have e1:(idsL L).countP (fun z=>(s::l).all fun s=>decide (s.id≠z))=(idsL L).countP (fun z=>(l.all fun s=>decide (s.id≠z))&&decide (z≠s.id)):=by
   refine List.countP_congr fun z _=>?_
   simp only[List.all_cons,Bool.and_eq_true,decide_eq_true_eq];constructor
   ·rintro⟨a,b⟩;exact⟨b,fun e=>a e.symm⟩
   rintro⟨a,b⟩;exact⟨fun e=>b e.symm,a⟩
  rw[e1];rw[cntL_cons];unfold stepL;cases hr:s.rm with
  |true=>
   rw[if_pos rfl,rem_cnt L s.id _];simp
  |false=>
   rw[if_neg (by decide),put_cnt L s.id s.text _];simp only[Bool.not_false,Bool.and_true];omega
theorem srt_eq{L M:Its}(hL:Srt K L)(hM:Srt K M)(h:∀p,p∈L ↔ p∈M):kL K L=kL K M:=
 asc_unique hL.asc hM.asc fun t=>by
  rw[kL_mem,kL_mem];exact⟨fun⟨p,hp,e⟩=>⟨p,(h p).1 hp,e⟩,fun⟨p,hp,e⟩=>⟨p,(h p).2 hp,e⟩⟩
theorem kL_ids(L:Its):(kL K L).map Prod.snd=idsL L:=by unfold kL idsL;rw[List.map_map];rfl
theorem runL_puts:∀(l:List Stp){L:Its}{p:Int×Li},(∀s∈l,s.rm=false)->l.Pairwise (fun a b=>a.id≠b.id)->(∀s∈l,s.id ∉ idsL L)->(p∈runL K L l ↔ p∈L\/∃s∈l,p=(s.id,s.text))
 | [],L,p,_,_,_=>by simp[runL]
 |s::l,L,p,h1,h2,h3=>by
  rw[List.pairwise_cons]at h2;show p∈runL K (stepL K L s) l ↔ _
  have h4:=h3 s List.mem_cons_self;rw[runL_puts l (fun s' hs'=>h1 s' (List.mem_cons_of_mem _ hs')) h2.2 (fun s' hs' hin=>?_),stepL_mem]
  ·constructor
   ·rintro((⟨_,g⟩|g)|⟨s',hs',g⟩)
    ·exact .inr ⟨s,List.mem_cons_self,g⟩
    ·exact .inl g.1
    exact .inr ⟨s',List.mem_cons_of_mem _ hs',g⟩
   rintro(g|⟨s',hs',g⟩)
   ·exact .inl (.inr ⟨g,fun e=>h4 (by rw[<-e];exact List.mem_map_of_mem (f:=Prod.fst) g)⟩)
   rcases List.mem_cons.1 hs' with rfl|hs'
   ·exact .inl (.inl ⟨h1 _ List.mem_cons_self,g⟩)
   exact .inr ⟨s',hs',g⟩
  obtain⟨p',hp',e'⟩:=List.mem_map.1 hin;rcases stepL_mem.1 hp' with⟨_,g⟩|g
  ·rw[g]at e'
   exact h2.1 s' hs' e'
  exact h3 s' (List.mem_cons_of_mem _ hs') (by rw[<-e'];exact List.mem_map_of_mem (f:=Prod.fst) g.1)
theorem turns{l:List Stp}(h1:∀s∈l,s.rm=false)(h2:l.Pairwise (fun a b=>a.id≠b.id)):idsL (runL K [] l)=idsL (runL K [] l.reverse)/\(runL K [] l).length=l.length:=by
 have h3:∀s∈l,s.id ∉ idsL []:=fun s _=>by simp[idsL]
 have h2':l.reverse.Pairwise (fun a b=>a.id≠b.id):=by
  rw[List.pairwise_reverse];exact h2.imp fun h e=>h e.symm
 refine⟨?_,?_⟩
 ·rw[<-kL_ids (K:=K),<-kL_ids (K:=K),srt_eq (runL_srt l srt_nil) (runL_srt l.reverse srt_nil) (fun p=>?_)]
  rw[runL_puts l h1 h2 h3,runL_puts l.reverse (fun s hs=>h1 s (List.mem_reverse.1 hs)) h2' (fun s _=>by simp[idsL])];simp
 rw[runL_cnt l srt_nil];have:∀(l:List Stp),(∀s∈l,s.rm=false)->l.Pairwise (fun a b=>a.id≠b.id)->cntL l=l.length:=by
  intro l;induction l with
  |nil=>intro _ _;rfl
  |cons s l ih=>
   intro g1 g2;rw[List.pairwise_cons]at g2;rw[cntL_cons,ih (fun s' hs'=>g1 s' (List.mem_cons_of_mem _ hs')) g2.2,g1 s List.mem_cons_self];have:(l.all fun s'=>decide (s'.id≠s.id))=true:=by
    rw[List.all_eq_true];intro s' hs';have:=g2.1 s' hs';simpa using fun e=>this e.symm
   rw[this];simp;omega
 rw[this l h1 h2];simp[idsL]
end
end Srl
section
open Go.ChangeShapes Go.WideShapes Go.ChangeAt Go.RowKit Srl
def Txt(w:Wv)(A:Oa)(k:Nat)(t:Li):Prop:=aA w A t/\t.length<=k/\k<=9223372036854775807/\∀z∈t,iok z
structure lV(w:Wv)(v:Int×Value×Bool×Value)(s:Stp):Prop where
 ex:∃T tk A ak,v=(s.id,.slice T s.text.length tk,s.rm,.slice A s.ask.length ak)/\Txt w T tk s.text/\Txt w A ak s.ask
 ok:iok s.id
def stC(v:Int×Value×Bool×Value):Lv:=[I J v.1,v.2.1,.bool v.2.2.1,v.2.2.2]
def jP(w:Wv)(A:Oa)(l:List Stp):Prop:=∃vs:List (Int×Value×Bool×Value),vs.length=l.length/\cV stC w A vs/\∀i,(hi:i<l.length)->(hv:i<vs.length)->lV w vs[i] l[i]
theorem Txt.below{w w':Wv}{A:Oa}{k:Nat}{t:Li}(h:Txt w A k t)(hb:By w w'):Txt w' A k t:=⟨h.1.below hb,h.2⟩
theorem lV.below{w w':Wv}{v:Int×Value×Bool×Value}{s:Stp}(h:lV w v s)(hb:By w w'):lV w' v s:=by
 obtain⟨T,tk,A,ak,e,h1,h2⟩:=h.ex;exact⟨⟨T,tk,A,ak,e,h1.below hb,h2.below hb⟩,h.ok⟩
theorem jP.below{w w':Wv}{A:Oa}{l:List Stp}(h:jP w A l)(hb:By w w'):jP w' A l:=by
 obtain⟨vs,h1,h2,h3⟩:=h;exact⟨vs,h1,h2.below hb,fun i hi hv=>(h3 i hi hv).below hb⟩
theorem jP.at{w:Wv}{A:Oa}{l:List Stp}(h:jP w A l){m:Nat}(hm:m<l.length):
  ∃b o,A=Z ⟨b,o,N⟩/\b<w.heap.size/\∀i,(hi:i<l.length)->∃T tk A ak,w.cell? ⟨b,o+i*4,N⟩=Z (I J l[i].id)/\w.cell? ⟨b,o+i*4+1,N⟩=Z (.slice T l[i].text.length tk)/\w.cell? ⟨b,o+i*4+2,N⟩=Z (.bool l[i].rm)/\w.cell? ⟨b,o+i*4+3,N⟩=Z (.slice A l[i].ask.length ak)/\Txt w T tk l[i].text/\Txt w A ak l[i].ask/\iok l[i].id:=by
 obtain⟨vs,h1,h2,h3⟩:=h;obtain⟨b,o,rfl,hb,hc⟩:=cV.at 4 (fun _=>rfl) (by omega) h2 (m:=m) (by omega);refine⟨b,o,rfl,hb,fun i hi=>?_⟩;obtain⟨T,tk,A,ak,hv,e1,e2⟩:=(h3 i hi (by omega)).ex;have ok:=(h3 i hi (by omega)).ok;have c0:=hc i (by omega) 0 _ rfl;have c1:=hc i (by omega) 1 _ rfl;have c2:=hc i (by omega) 2 _ rfl;have c3:=hc i (by omega) 3 _ rfl;rw[hv]at c0 c1 c2 c3;exact⟨T,tk,A,ak,c0,c1,c2,c3,e1,e2,ok⟩
section
variable {H:Type}{enc:TypeId×Value->H}{w:Wv}{base:Nat}{spare:Nat->Bool}{held:Bool}{fuel:Nat}{cs:Lv}{x:DataW H×List MemPlace}
theorem zT(h:DataW.trod enc prog w base spare held fuel 49 cs=Z x):
  ∃A len cap,∃l:Li,cs=[.slice A len cap]/\l.length=len/\Txt w A cap l:=by
 obtain⟨A,len,cap,l,h1,h2,h3,h4,h5,h6⟩:=jF (α:=Int) (fun z=>[I J z]) 1 (by omega) (fun _=>rfl) (fun z=>iok z) underlying49 ci (fun fuel cs x hl hx=>by
  obtain⟨z,hz,_,hw⟩:=DataW.trod_int underlying3 hx
  exact⟨z,hz,hw⟩) h
 refine⟨A,len,cap,l,h1,h2,?_,by omega,h4,h6⟩;unfold cV aF at h5;unfold aA;rw[show l.map (Value.int .i64)=l.flatMap (fun z=>[I J z]) by clear h2 h5 h6;induction l<;>simp_all];exact h5
theorem UL(h:DataW.trod enc prog w base spare held fuel 28 cs=Z x):
  ∃A0 k0 A1 k1 A2 k2,∃C:Nrm,cs=[.slice A0 C.cls.length k0,.slice A1 C.dec.length k1,.slice A2 C.exc.length k2]/\bA w A0 C.cls.length A1 C.dec.length A2 C.exc.length C/\qQ C:=by
 obtain⟨xs,k,hk,hxy,hcl,hxl,hfs⟩:=DataW.trod_struct underlying28 h;have h6:prog.cellsOf 28=3:=by kernel_rfl
 rw[h6]at hcl;match xs,hxl,cs,hcl with
 | [y0,y1,y2],_,[v0,v1,v2],_=>
  have g0:=hfs 0 _ rfl;have g1:=hfs 1 _ rfl;have g2:=hfs 2 _ rfl;simp[RZ,mcM,mcS]at g0 g1 g2;obtain⟨A0,n0,c0,l0,e0,f0,q0,r0,i0⟩:=UQ g0;obtain⟨A1,n1,c1,l1,e1,f1,q1,r1,i1,s1⟩:=UK g1;obtain⟨A2,n2,c2,l2,e2,f2,q2,r2,i2⟩:=UO rfl g2;simp at e0 e1 e2;subst e0;subst e1;subst e2;subst f0;subst f1;subst f2;exact⟨A0,c0,A1,c1,A2,c2,⟨l0,l1,l2⟩,rfl,⟨i0,i1,i2,rfl,rfl,rfl⟩,⟨by show l0.length<=_;omega,by show l1.length<=_;omega,by show l2.length<=_;omega,s1⟩⟩
theorem UD(h:DataW.trod enc prog w base spare held fuel 32 cs=Z x):
  ∃A a B b,∃c:Col,cs=[.slice A c.ents.length a,.slice B c.grps.length b,I J c.base,I J c.second,I J c.third]/\aU w A c.ents.length B c.grps.length c/\c.ents.length<=a/\a<=9223372036854775807/\c.grps.length<=b/\b<=9223372036854775807:=by
 obtain⟨xs,k,hk,hxy,hcl,hxl,hfs⟩:=DataW.trod_struct underlying32 h;have h5:prog.cellsOf 32=5:=by kernel_rfl
 rw[h5]at hcl;match xs,hxl,cs,hcl with
 | [y0,y1,y2,y3,y4],_,[v0,v1,v2,v3,v4],_=>
  have g0:=hfs 0 _ rfl;have g1:=hfs 1 _ rfl;have g2:=hfs 2 _ rfl;have g3:=hfs 3 _ rfl;have g4:=hfs 4 _ rfl;simp[ci,cN,cG]at g0 g1 g2 g3 g4;obtain⟨A,n,a,l0,e0,f0,q0,r0,i0⟩:=UF g0;obtain⟨B,m,b,l1,e1,f1,q1,r1,i1,s1⟩:=UH g1;obtain⟨z2,e2,_,_⟩:=DataW.trod_int underlying3 g2;obtain⟨z3,e3,_,_⟩:=DataW.trod_int underlying3 g3;obtain⟨z4,e4,_,_⟩:=DataW.trod_int underlying3 g4;simp at e0 e1 e2 e3 e4;subst e0;subst e1;subst e2;subst e3;subst e4;subst f0;subst f1;exact⟨A,a,B,b,⟨l0,l1,z2,z3,z4⟩,rfl,⟨i0,i1,rfl,rfl,s1⟩,q0,r0,q1,r1⟩
theorem UM(h:DataW.trod enc prog w base spare held fuel 34 cs=Z x):
  ∃o:Opt,cs=[I J o.st,I J o.va,.bool o.bk,.bool o.idn]:=by
 obtain⟨xs,k,hk,hxy,hcl,hxl,hfs⟩:=DataW.trod_struct underlying34 h;have h4:prog.cellsOf 34=4:=by kernel_rfl
 rw[h4]at hcl;match xs,hxl,cs,hcl with
 | [y0,y1,y2,y3],_,[v0,v1,v2,v3],_=>
  have g0:=hfs 0 _ rfl;have g1:=hfs 1 _ rfl;have g2:=hfs 2 _ rfl;have g3:=hfs 3 _ rfl;simp[ci,cb']at g0 g1 g2 g3;obtain⟨z0,e0,_,_⟩:=DataW.trod_int underlying3 g0;obtain⟨z1,e1,_,_⟩:=DataW.trod_int underlying3 g1;obtain⟨z2,e2,_⟩:=DataW.trod_bool underlying4 g2;obtain⟨z3,e3,_⟩:=DataW.trod_bool underlying4 g3;simp at e0 e1 e2 e3;subst e0;subst e1;subst e2;subst e3;exact⟨⟨z0,z1,z2,z3⟩,rfl⟩
end
structure eQ where
 A0:Oa
 k0:Nat
 A1:Oa
 k1:Nat
 A2:Oa
 k2:Nat
 C:Oa
 a:Nat
 B:Oa
 b:Nat
def setC(V:eQ)(x:Nrm)(c:Col)(o:Opt):Lv:=
 [.slice V.A0 x.cls.length V.k0,.slice V.A1 x.dec.length V.k1,.slice V.A2 x.exc.length V.k2,.slice V.C c.ents.length V.a,.slice V.B c.grps.length V.b,I J c.base,I J c.second,I J c.third,I J o.st,I J o.va,.bool o.bk,.bool o.idn]
structure lC(w:Wv)(V:eQ)(x:Nrm)(c:Col):Prop where
 nrm:bA w V.A0 x.cls.length V.A1 x.dec.length V.A2 x.exc.length x
 ln:qQ x
 col:aU w V.C c.ents.length V.B c.grps.length c
 na:c.ents.length<=V.a
 aa:V.a<=9223372036854775807
 mb:c.grps.length<=V.b
 bb:V.b<=9223372036854775807
theorem lC.below{w w':Wv}{V:eQ}{x:Nrm}{c:Col}(h:lC w V x c)(hb:By w w'):lC w' V x c:={ h with nrm:=h.nrm.below hb,col:=h.col.below hb }
section
variable {H:Type}{enc:TypeId×Value->H}{w:Wv}{base:Nat}{spare:Nat->Bool}{held:Bool}
theorem cNo:prog.cellsOf 28=3:=by kernel_rfl
theorem cCo:prog.cellsOf 32=5:=by kernel_rfl
theorem cOp:prog.cellsOf 34=4:=by kernel_rfl
theorem open_setting{v:Value}{r:Reach}{b0:Nat}{d:DataW H}{p:List MemPlace}(hok:Value.okWide prog w r b0 36 v)(h:DataW.Trod enc prog w base spare held 36 v d p):
  ∃(V:eQ)(x:Nrm)(c:Col)(o:Opt),v=.agg (setC V x c o).toArray/\lC w V x c:=by
 obtain⟨fuel,hf⟩:=h;obtain⟨cs,rfl,_⟩:=okWide_struct underlying36 hok;obtain⟨xs,k,hk,hxy,hcl,hxl,hfs⟩:=DataW.trod_struct underlying36 hf;have h12:prog.cellsOf 36=12:=by kernel_rfl
 rw[h12]at hcl;obtain⟨cs⟩:=cs;simp only[Value.cells]at hcl hfs;match xs,hxl,cs,hcl with
 | [y0,y1,y2],_,[v0,v1,v2,v3,v4,v5,v6,v7,v8,v9,v10,v11],_=>
  have g0:=hfs 0 _ rfl;have g1:=hfs 1 _ rfl;have g2:=hfs 2 _ rfl;simp[cNo,cCo,cOp]at g0 g1 g2;obtain⟨A0,k0,A1,k1,A2,k2,x,e0,i0,j0⟩:=UL g0;obtain⟨C,a,B,b,c,e1,i1,q1,r1,q2,r2⟩:=UD g1;obtain⟨o,e2⟩:=UM g2;simp at e0 e1 e2;obtain⟨rfl,rfl,rfl⟩:=e0;obtain⟨rfl,rfl,rfl,rfl,rfl⟩:=e1;obtain⟨rfl,rfl,rfl,rfl⟩:=e2;exact⟨⟨A0,k0,A1,k1,A2,k2,C,a,B,b⟩,x,c,o,rfl,⟨i0,j0,i1,q1,r1,q2,r2⟩⟩
theorem UR{fuel:Nat}{cs:Lv}{x:DataW H×List MemPlace}(h:DataW.trod enc prog w base spare held fuel 37 cs=Z x):
  ∃A len cap,∃l:List Stp,cs=[.slice A len cap]/\l.length=len/\len<=cap/\cap<=9223372036854775807/\jP w A l:=by
 have:Inhabited (Int×Value×Bool×Value):=⟨(0,.bool false,false,.bool false)⟩
 obtain⟨A,len,cap,vs,h1,h2,h3,h4,h5,h6⟩:=jF (α:=Int×Value×Bool×Value) stC 4 (by omega) (fun _=>rfl) (fun v=>∃x,lV w v x) underlying37 (by kernel_rfl) (fun fuel cs x hl hx=>by
  obtain⟨xs,k,hk,hxy,_,hxl,hfs⟩:=DataW.trod_struct underlying51 hx
  match xs,hxl,cs,hl with
  | [y0,y1,y2,y3],_,[v0,v1,v2,v3],_=>
   have g0:=hfs 0 _ rfl
   have g1:=hfs 1 _ rfl
   have g2:=hfs 2 _ rfl
   have g3:=hfs 3 _ rfl
   simp[ci,cI,cb']at g0 g1 g2 g3
   obtain⟨z0,e0,_,w0⟩:=DataW.trod_int underlying3 g0
   obtain⟨A1,n1,c1,l1,e1,f1,i1⟩:=zT g1
   obtain⟨z2,e2,_⟩:=DataW.trod_bool underlying4 g2
   obtain⟨A3,n3,c3,l3,e3,f3,i3⟩:=zT g3
   simp at e0 e1 e2 e3
   subst e0;subst e1;subst e2;subst e3;subst f1;subst f3
   exact⟨(z0,.slice A1 l1.length c1,z2,.slice A3 l3.length c3),rfl,⟨z0,l1,z2,l3⟩,⟨A1,c1,A3,c3,rfl,i1,i3⟩,w0⟩) h
 have each:∀i,i<vs.length->∃y:Stp,∀hv:i<vs.length,lV w vs[i] y:=fun i hi=>by
  obtain⟨y,hy⟩:=h6 _ (List.getElem_mem hi);exact⟨y,fun _=>hy⟩
 have:Inhabited Stp:=⟨⟨0,[],false,[]⟩⟩;obtain⟨V,hV⟩:=Deep.choose_lt each;refine⟨A,len,cap,(List.range vs.length).map V,h1,by simpa using h2,h3,h4,vs,by simp,h5,fun i hi hv=>?_⟩;have:=hV i hv hv;simpa using this
theorem open_stps{A:Oa}{n c:Nat}{d:DataW H}{p:List MemPlace}(h:DataW.Trod enc prog w base spare held 37 (.slice A n c) d p):
  ∃l:List Stp,l.length=n/\n<=c/\c<=9223372036854775807/\jP w A l:=by
 obtain⟨fuel,hf⟩:=h;obtain⟨A',n',c',l,e,h1,h2,h3,h4⟩:=UR hf;have e':[Value.slice A n c]=[.slice A' n' c']:=e;injection e' with e' _;injection e' with ea en ec;subst ea;subst en;subst ec;exact⟨l,h1,h2,h3,h4⟩
end
end
end Go.Proofs.YtpfbnikbebccjaaGreatDoor
