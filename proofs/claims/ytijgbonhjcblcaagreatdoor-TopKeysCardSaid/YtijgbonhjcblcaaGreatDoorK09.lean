/- Texts that are merged into one file: OpenCol, KeyPlain, OpenTp. -/
import Derived.Test.YtijgbonhjcblcaaGreatDoorK01
import Derived.Test.YtijgbonhjcblcaaGreatDoorK05
import Derived.Test.YtijgbonhjcblcaaGreatDoorK08
set_option maxRecDepth 100000
set_option maxHeartbeats 51200000
namespace Go.Proofs.YtijgbonhjcblcaaGreatDoor
open Go.ChangeShapes Go.WideShapes Go.ChangeAt Go.RowKit
section
variable {H:Type} {enc:TypeId × Value→H} {w:World} {base:Nat} {spare:Nat→Bool} {held:Bool} {fuel:Nat} {cs:List Value} {x:DataW H × List MemPlace}
theorem ci:Tryz.prog.cellsOf 3=1:=by kernel_rfl
theorem cs':Tryz.prog.cellsOf 9=1:=by kernel_rfl
theorem cb':Tryz.prog.cellsOf 4=1:=by kernel_rfl
theorem cI:Tryz.prog.cellsOf 37=1:=by kernel_rfl
theorem cE:Tryz.prog.cellsOf 72=1:=by kernel_rfl
theorem cN:Tryz.prog.cellsOf 29=1:=by kernel_rfl
theorem cG:Tryz.prog.cellsOf 30=1:=by kernel_rfl
theorem open_ints' (h:DataW.trod enc Tryz.prog w base spare held fuel 37 cs=some x) :
  ∃A len cap,∃l:List Int,cs=[.slice A len cap]∧l.length=len∧len≤cap∧cap≤9223372036854775807∧Ints w A l:=by
 obtain ⟨A,len,cap,l,h1,h2,h3,h4,h5,_⟩:=open_recs (α:=Int) (fun z=>[.int .i64 z]) 1 (by omega) (fun _=>rfl) (fun _=>True) Tryz.underlying37 ci (fun fuel cs x hl hx=>by
  obtain ⟨z,hz,_,_⟩:=DataW.trod_int Tryz.underlying3 hx
  exact ⟨z,hz,trivial⟩) h
 refine ⟨A,len,cap,l,h1,h2,h3,h4,?_⟩
 unfold Recs flatK at h5
 unfold Ints
 rw [show l.map (Value.int .i64)=l.flatMap (fun z=>[.int .i64 z]) by clear h2 h5;induction l <;> simp_all]
 exact h5
instance:Inhabited Grp:=⟨⟨.empty,0,0⟩⟩
instance:Inhabited Elt:=⟨⟨0,0,0,false⟩⟩
instance:Inhabited Ent:=⟨⟨[],[]⟩⟩
theorem open_grps (h:DataW.trod enc Tryz.prog w base spare held fuel 30 cs=some x) :
  ∃A len cap,∃l:List Grp,cs=[.slice A len cap]∧l.length=len∧len≤cap∧cap≤9223372036854775807∧Grps w A l∧∀g ∈ l,g.name.size≤9223372036854775807:=by
 refine open_recs (α:=Grp) Grp.cells 3 (by omega) (fun _=>rfl) (fun g=>g.name.size≤9223372036854775807) Tryz.underlying30 (by kernel_rfl) (fun fuel cs x hl hx=>?_) h
 obtain ⟨xs,k,hk,hxy,_,hxl,hfs⟩:=DataW.trod_struct Tryz.underlying137 hx
 match xs,hxl,cs,hl with
 | [y0,y1,y2],_,[v0,v1,v2],_=>
  have g0:=hfs 0 _ rfl
  have g1:=hfs 1 _ rfl
  have g2:=hfs 2 _ rfl
  simp [ci,cs'] at g0 g1 g2
  obtain ⟨z0,e0,_,hs⟩:=DataW.trod_string Tryz.underlying9 g0
  obtain ⟨z1,e1,_,_⟩:=DataW.trod_int Tryz.underlying3 g1
  obtain ⟨z2,e2,_,_⟩:=DataW.trod_int Tryz.underlying3 g2
  simp at e0 e1 e2
  subst e0;subst e1;subst e2
  exact ⟨⟨z0,z1,z2⟩,rfl,by unfold maxLen at hs;show z0.size≤_;omega⟩
theorem open_elts (h:DataW.trod enc Tryz.prog w base spare held fuel 72 cs=some x) :
  ∃A len cap,∃l:List Elt,cs=[.slice A len cap]∧l.length=len∧len≤cap∧cap≤9223372036854775807∧Elts w A l∧∀_ ∈ l,True:=by
 refine open_recs (α:=Elt) Elt.cells 4 (by omega) (fun _=>rfl) (fun _=>True) Tryz.underlying72 (by kernel_rfl) (fun fuel cs x hl hx=>?_) h
 obtain ⟨xs,k,hk,hxy,_,hxl,hfs⟩:=DataW.trod_struct Tryz.underlying112 hx
 match xs,hxl,cs,hl with
 | [y0,y1,y2,y3],_,[v0,v1,v2,v3],_=>
  have g0:=hfs 0 _ rfl
  have g1:=hfs 1 _ rfl
  have g2:=hfs 2 _ rfl
  have g3:=hfs 3 _ rfl
  simp [ci,cb'] at g0 g1 g2 g3
  obtain ⟨z0,e0,_,_⟩:=DataW.trod_int Tryz.underlying3 g0
  obtain ⟨z1,e1,_,_⟩:=DataW.trod_int Tryz.underlying3 g1
  obtain ⟨z2,e2,_,_⟩:=DataW.trod_int Tryz.underlying3 g2
  obtain ⟨z3,e3,_⟩:=DataW.trod_bool Tryz.underlying4 g3
  simp at e0 e1 e2 e3
  subst e0;subst e1;subst e2;subst e3
  exact ⟨⟨z0,z1,z2,z3⟩,rfl,trivial⟩
theorem open_ents (h:DataW.trod enc Tryz.prog w base spare held fuel 29 cs=some x) :
  ∃A len cap,∃l:List Ent,cs=[.slice A len cap]∧l.length=len∧len≤cap∧cap≤9223372036854775807∧Ents w A l:=by
 have:Inhabited (Value × Value):=⟨(.bool false,.bool false)⟩
 obtain ⟨A,len,cap,vs,h1,h2,h3,h4,h5,h6⟩:=open_recs (α:=Value × Value) (fun v=>[v.1,v.2]) 2 (by omega) (fun _=>rfl) (fun v=>∃x,EntV w v x) Tryz.underlying29 (by kernel_rfl) (fun fuel cs x hl hx=>by
  obtain ⟨xs,k,hk,hxy,_,hxl,hfs⟩:=DataW.trod_struct Tryz.underlying105 hx
  match xs,hxl,cs,hl with
  | [y0,y1],_,[v0,v1],_=>
   have g0:=hfs 0 _ rfl
   have g1:=hfs 1 _ rfl
   simp [cI,cE] at g0 g1
   obtain ⟨A0,n0,c0,l0,e0,f0,_,_,i0⟩:=open_ints' g0
   obtain ⟨A1,n1,c1,l1,e1,f1,_,_,i1,_⟩:=open_elts g1
   simp at e0 e1
   subst e0;subst e1;subst f0;subst f1
   exact ⟨(.slice A0 l0.length c0,.slice A1 l1.length c1),rfl,⟨l0,l1⟩,⟨A0,c0,A1,c1,rfl,i0,i1⟩⟩) h
 have each:∀i,i < vs.length→∃y:Ent,∀hv:i < vs.length,EntV w vs[i] y:=fun i hi=>by
  obtain ⟨y,hy⟩:=h6 _ (List.getElem_mem hi)
  exact ⟨y,fun _=>hy⟩
 obtain ⟨V,hV⟩:=Deep.choose_lt each
 refine ⟨A,len,cap,(List.range vs.length).map V,h1,by simpa using h2,h3,h4,vs,by simp,h5,fun i hi hv=>?_⟩
 have:=hV i hv hv
 simpa using this
end
end Go.Proofs.YtijgbonhjcblcaaGreatDoor
namespace Go.Proofs.YtijgbonhjcblcaaGreatDoor
open Go.RowKit
structure Opt where
 st:Int
 va:Int
 bk:Bool
 idn:Bool
 deriving DecidableEq
def optOk (o:Opt):Bool:=decide (1≤o.st)&&decide (o.st≤4)&&(decide (1≤o.va)&&decide (o.va≤3))
def optD (o:Opt):Opt:=if optOk o=true then o else ⟨3,1,false,false⟩
theorem optD_ok (o:Opt):optOk (optD o)=true:=by
 unfold optD
 split
 ·next h=>exact h
 ·rfl
theorem optD_bd (o:Opt):(1≤(optD o).st∧(optD o).st≤4)∧(1≤(optD o).va∧(optD o).va≤3):=by
 have h:=optD_ok o
 unfold optOk at h
 simp at h
 omega
def aftE (a:Bool) (e:Elt):Bool:=if e.v=true∨e.p≠0 then e.v else a
def noneE (e:Elt):Bool:=decide (e.p=0)&&decide (e.s=0)&&decide (e.t=0)
def rawE (e:Elt) (k:Nat):Int:=if k=0 then e.p else if k=1 then e.s else if k=2 then e.t else 0
def wtE (va:Int) (a:Bool) (e:Elt) (k:Nat):Int:=
 if va=1 then (if k < 3 then rawE e k else if noneE e=true then 0 else 65535)
 else if a=true then (if k=3∧va=3∧e.v=true then e.p else 0)
 else (if k < 3 then rawE e k else if va=3∧noneE e=false then 65535 else 0)
def aftL (a:Bool) (l:List Elt):Bool:=l.foldl aftE a
def wtsL (va:Int):Bool→List Elt→List (Nat→Int)
 | _,[]=>[]
 | a,e::l=>wtE va (aftE a e) e::wtsL va (aftE a e) l
theorem wtsL_len (va:Int):∀(a:Bool) (l:List Elt),(wtsL va a l).length=l.length
 | _,[]=>rfl
 | a,e::l=>by unfold wtsL;rw [List.length_cons,wtsL_len va _ l,List.length_cons]
theorem wtsL_snoc (va:Int) (e:Elt):∀(a:Bool) (l:List Elt),wtsL va a (l++[e])=wtsL va a l++[wtE va (aftE (aftL a l) e) e]
 | _,[]=>rfl
 | a,x::l=>by
  rw [List.cons_append]
  unfold wtsL
  rw [wtsL_snoc va e _ l]
  rfl
theorem wtsL_take (va:Int) {l:List Elt} {i:Nat} (hi:i < l.length):wtsL va false (l.take (i+1))=wtsL va false (l.take i)++[wtE va (aftE (aftL false (l.take i)) l[i]) l[i]]:=by
 rw [List.take_succ_eq_append_getElem hi,wtsL_snoc]
theorem aftL_take {l:List Elt} {i:Nat} (hi:i < l.length):aftL false (l.take (i+1))=aftE (aftL false (l.take i)) l[i]:=by
 rw [List.take_succ_eq_append_getElem hi]
 unfold aftL
 rw [List.foldl_append]
 rfl
def rowK (ws:List (Nat→Int)) (k:Nat):List Int:=(ws.map (fun w=>w k)).filter (fun x=>decide (x≠0))
theorem rowK_snoc (ws:List (Nat→Int)) (w:Nat→Int) (k:Nat):rowK (ws++[w]) k=rowK ws k++if w k=0 then [] else [w k]:=by
 unfold rowK
 rw [List.map_append,List.filter_append]
 congr 1
 by_cases h:w k=0
 ·simp [h]
 ·simp [h]
theorem rowK_len (ws:List (Nat→Int)) (k:Nat):(rowK ws k).length≤ws.length:=by
 unfold rowK
 have:=List.length_filter_le (fun x=>decide (x≠0)) (ws.map (fun w=>w k))
 rw [List.length_map] at this
 exact this
def lvlK (o:Opt) (es:List Elt) (k:Nat):List Int:=if k=1∧o.bk=true then (rowK (wtsL o.va false es) k).reverse else rowK (wtsL o.va false es) k
def wgtL (o:Opt) (es:List Elt):List (List Int):=(List.range o.st.toNat).map (lvlK o es)
theorem wgtL_len (o:Opt) (es:List Elt):(wgtL o es).length=o.st.toNat:=by unfold wgtL;simp
def joinL:List (List Int)→List Int
 | []=>[]
 | [x]=>x
 | x::y::l=>x++0::joinL (y::l)
theorem joinL_snoc (y:List Int):∀l:List (List Int),joinL (l++[y])=joinL l++if l=[] then y else 0::y
 | []=>rfl
 | [x]=>rfl
 | x::z::l=>by
  have h:=joinL_snoc y (z::l)
  rw [if_neg (by simp)] at h ⊢
  show x++0::joinL ((z::l)++[y])=(x++0::joinL (z::l))++0::y
  rw [h]
  simp
theorem joinL_take {l:List (List Int)} {i:Nat} (hi:i < l.length):joinL (l.take (i+1))=(joinL (l.take i)++if i=0 then [] else [0])++l[i]:=by
 rw [List.take_succ_eq_append_getElem hi,joinL_snoc]
 by_cases h:i=0
 ·subst h;simp
 ·rw [if_neg h,if_neg (by
   intro e
   have:=congrArg List.length e
   rw [List.length_take,List.length_nil] at this
   omega)]
  simp
def idnL (d:List Int):List Int:=(d.filter (fun c=>decide (0≤c)&&decide (c≤1114111))).map (·+1)
theorem idnL_snoc (d:List Int) (c:Int):idnL (d++[c])=idnL d++if 0≤c∧c≤1114111 then [c+1] else []:=by
 unfold idnL
 rw [List.filter_append,List.map_append]
 congr 1
 by_cases h:0≤c∧c≤1114111
 ·simp [h]
 ·rw [if_neg h]
  have:(decide (0≤c)&&decide (c≤1114111))=false:=by
   rw [Bool.eq_false_iff]
   intro h2
   simp at h2
   exact h h2
  simp [List.filter,this]
def keyN (o:Opt) (es:List Elt) (d:List Int):List Int:=joinL (wgtL o es)++if o.idn=true then 0::idnL d else []
end Go.Proofs.YtijgbonhjcblcaaGreatDoor
namespace Go.Proofs.YtijgbonhjcblcaaGreatDoor
open Go.ChangeShapes Go.WideShapes Go.ChangeAt Go.RowKit
def Txt (w:World) (A:Option Addr) (k:Nat) (t:List Int):Prop:=Ints w A t∧t.length≤k∧k≤9223372036854775807∧∀z ∈ t,iok z
theorem Txt.below {w w':World} {A:Option Addr} {k:Nat} {t:List Int} (h:Txt w A k t) (hb:Below w.heap.size w w'):Txt w' A k t:=⟨h.1.below hb,h.2⟩
def txC (v:Value):List Value:=[v]
def Txts (w:World) (A:Option Addr) (l:List (List Int)):Prop:=∃vs:List Value,vs.length=l.length∧Recs txC w A vs∧∀i,(hi:i < l.length)→(hv:i < vs.length)→∃T k,vs[i]=.slice T l[i].length k∧Txt w T k l[i]
theorem Txts.below {w w':World} {A:Option Addr} {l:List (List Int)} (h:Txts w A l) (hb:Below w.heap.size w w'):Txts w' A l:=by
 obtain ⟨vs,h1,h2,h3⟩:=h
 refine ⟨vs,h1,h2.below hb,fun i hi hv=>?_⟩
 obtain ⟨T,k,e,h⟩:=h3 i hi hv
 exact ⟨T,k,e,h.below hb⟩
theorem Txts.at {w:World} {A:Option Addr} {l:List (List Int)} (h:Txts w A l) {m:Nat} (hm:m < l.length) :
  ∃b o,A=some ⟨b,o,none⟩∧b < w.heap.size∧∀i,(hi:i < l.length)→∃T k,w.cell? ⟨b,o+i,none⟩=some (.slice T l[i].length k)∧Txt w T k l[i]:=by
 obtain ⟨vs,h1,h2,h3⟩:=h
 obtain ⟨b,o,rfl,hb,hc⟩:=Recs.at 1 (fun _=>rfl) (by omega) h2 (m:=m) (by omega)
 refine ⟨b,o,rfl,hb,fun i hi=>?_⟩
 obtain ⟨T,k,e,ht⟩:=h3 i hi (by omega)
 have c0:=hc i (by omega) 0 _ rfl
 rw [e] at c0
 rw [Nat.mul_one] at c0
 exact ⟨T,k,c0,ht⟩
section
variable {H:Type} {enc:TypeId × Value→H} {w:World} {base:Nat} {spare:Nat→Bool} {held:Bool} {fuel:Nat} {cs:List Value} {x:DataW H × List MemPlace}
theorem open_txt (h:DataW.trod enc Tryz.prog w base spare held fuel 37 cs=some x) :
  ∃A len cap,∃l:List Int,cs=[.slice A len cap]∧l.length=len∧Txt w A cap l:=by
 obtain ⟨A,len,cap,l,h1,h2,h3,h4,h5,h6⟩:=open_recs (α:=Int) (fun z=>[.int .i64 z]) 1 (by omega) (fun _=>rfl) (fun z=>iok z) Tryz.underlying37 ci (fun fuel cs x hl hx=>by
  obtain ⟨z,hz,_,hw⟩:=DataW.trod_int Tryz.underlying3 hx
  exact ⟨z,hz,hw⟩) h
 refine ⟨A,len,cap,l,h1,h2,?_,by omega,h4,h6⟩
 unfold Recs flatK at h5
 unfold Ints
 rw [show l.map (Value.int .i64)=l.flatMap (fun z=>[.int .i64 z]) by clear h2 h5 h6;induction l <;> simp_all]
 exact h5
theorem open_norm' (h:DataW.trod enc Tryz.prog w base spare held fuel 28 cs=some x) :
  ∃A0 k0 A1 k1 A2 k2,∃C:Nrm,cs=[.slice A0 C.cls.length k0,.slice A1 C.dec.length k1,.slice A2 C.exc.length k2]∧NrmAt w A0 C.cls.length A1 C.dec.length A2 C.exc.length C∧NrmLn C:=by
 obtain ⟨xs,k,hk,hxy,hcl,hxl,hfs⟩:=DataW.trod_struct Tryz.underlying28 h
 have h6:Tryz.prog.cellsOf 28=3:=by kernel_rfl
 rw [h6] at hcl
 match xs,hxl,cs,hcl with
 | [y0,y1,y2],_,[v0,v1,v2],_=>
  have g0:=hfs 0 _ rfl
  have g1:=hfs 1 _ rfl
  have g2:=hfs 2 _ rfl
  simp [mcSp,mcM,mcS] at g0 g1 g2
  obtain ⟨A0,n0,c0,l0,e0,f0,q0,r0,i0⟩:=open_spns g0
  obtain ⟨A1,n1,c1,l1,e1,f1,q1,r1,i1,s1⟩:=open_maps g1
  obtain ⟨A2,n2,c2,l2,e2,f2,q2,r2,i2⟩:=open_set rfl g2
  simp at e0 e1 e2
  subst e0;subst e1;subst e2
  subst f0;subst f1;subst f2
  exact ⟨A0,c0,A1,c1,A2,c2,⟨l0,l1,l2⟩,rfl,⟨i0,i1,i2,rfl,rfl,rfl⟩,⟨by show l0.length≤_;omega,by show l1.length≤_;omega,by show l2.length≤_;omega,s1⟩⟩
theorem open_col' (h:DataW.trod enc Tryz.prog w base spare held fuel 32 cs=some x) :
  ∃A a B b,∃c:Col,cs=[.slice A c.ents.length a,.slice B c.grps.length b,.int .i64 c.base,.int .i64 c.second,.int .i64 c.third]∧ColAt w A c.ents.length B c.grps.length c∧c.ents.length≤a∧a≤9223372036854775807∧c.grps.length≤b∧b≤9223372036854775807:=by
 obtain ⟨xs,k,hk,hxy,hcl,hxl,hfs⟩:=DataW.trod_struct Tryz.underlying32 h
 have h5:Tryz.prog.cellsOf 32=5:=by kernel_rfl
 rw [h5] at hcl
 match xs,hxl,cs,hcl with
 | [y0,y1,y2,y3,y4],_,[v0,v1,v2,v3,v4],_=>
  have g0:=hfs 0 _ rfl
  have g1:=hfs 1 _ rfl
  have g2:=hfs 2 _ rfl
  have g3:=hfs 3 _ rfl
  have g4:=hfs 4 _ rfl
  simp [ci,cN,cG] at g0 g1 g2 g3 g4
  obtain ⟨A,n,a,l0,e0,f0,q0,r0,i0⟩:=open_ents g0
  obtain ⟨B,m,b,l1,e1,f1,q1,r1,i1,s1⟩:=open_grps g1
  obtain ⟨z2,e2,_,_⟩:=DataW.trod_int Tryz.underlying3 g2
  obtain ⟨z3,e3,_,_⟩:=DataW.trod_int Tryz.underlying3 g3
  obtain ⟨z4,e4,_,_⟩:=DataW.trod_int Tryz.underlying3 g4
  simp at e0 e1 e2 e3 e4
  subst e0;subst e1;subst e2;subst e3;subst e4;subst f0;subst f1
  exact ⟨A,a,B,b,⟨l0,l1,z2,z3,z4⟩,rfl,⟨i0,i1,rfl,rfl,s1⟩,q0,r0,q1,r1⟩
theorem open_opt' (h:DataW.trod enc Tryz.prog w base spare held fuel 34 cs=some x) :
  ∃o:Opt,cs=[.int .i64 o.st,.int .i64 o.va,.bool o.bk,.bool o.idn]:=by
 obtain ⟨xs,k,hk,hxy,hcl,hxl,hfs⟩:=DataW.trod_struct Tryz.underlying34 h
 have h4:Tryz.prog.cellsOf 34=4:=by kernel_rfl
 rw [h4] at hcl
 match xs,hxl,cs,hcl with
 | [y0,y1,y2,y3],_,[v0,v1,v2,v3],_=>
  have g0:=hfs 0 _ rfl
  have g1:=hfs 1 _ rfl
  have g2:=hfs 2 _ rfl
  have g3:=hfs 3 _ rfl
  simp [ci,cb'] at g0 g1 g2 g3
  obtain ⟨z0,e0,_,_⟩:=DataW.trod_int Tryz.underlying3 g0
  obtain ⟨z1,e1,_,_⟩:=DataW.trod_int Tryz.underlying3 g1
  obtain ⟨z2,e2,_⟩:=DataW.trod_bool Tryz.underlying4 g2
  obtain ⟨z3,e3,_⟩:=DataW.trod_bool Tryz.underlying4 g3
  simp at e0 e1 e2 e3
  subst e0;subst e1;subst e2;subst e3
  exact ⟨⟨z0,z1,z2,z3⟩,rfl⟩
end
structure SetV where
 A0:Option Addr
 k0:Nat
 A1:Option Addr
 k1:Nat
 A2:Option Addr
 k2:Nat
 C:Option Addr
 a:Nat
 B:Option Addr
 b:Nat
def setC (V:SetV) (x:Nrm) (c:Col) (o:Opt):List Value:=
 [.slice V.A0 x.cls.length V.k0,.slice V.A1 x.dec.length V.k1,.slice V.A2 x.exc.length V.k2,.slice V.C c.ents.length V.a,.slice V.B c.grps.length V.b,.int .i64 c.base,.int .i64 c.second,.int .i64 c.third,.int .i64 o.st,.int .i64 o.va,.bool o.bk,.bool o.idn]
structure SetAt (w:World) (V:SetV) (x:Nrm) (c:Col):Prop where
 nrm:NrmAt w V.A0 x.cls.length V.A1 x.dec.length V.A2 x.exc.length x
 ln:NrmLn x
 col:ColAt w V.C c.ents.length V.B c.grps.length c
 na:c.ents.length≤V.a
 aa:V.a≤9223372036854775807
 mb:c.grps.length≤V.b
 bb:V.b≤9223372036854775807
theorem SetAt.below {w w':World} {V:SetV} {x:Nrm} {c:Col} (h:SetAt w V x c) (hb:Below w.heap.size w w'):SetAt w' V x c:={ h with nrm:=h.nrm.below hb,col:=h.col.below hb }
section
variable {H:Type} {enc:TypeId × Value→H} {w:World} {base:Nat} {spare:Nat→Bool} {held:Bool}
theorem cNo:Tryz.prog.cellsOf 28=3:=by kernel_rfl
theorem cCo:Tryz.prog.cellsOf 32=5:=by kernel_rfl
theorem cOp:Tryz.prog.cellsOf 34=4:=by kernel_rfl
theorem open_setting {v:Value} {r:Reach} {b0:Nat} {d:DataW H} {p:List MemPlace} (hok:Value.okWide Tryz.prog w r b0 36 v) (h:DataW.Trod enc Tryz.prog w base spare held 36 v d p) :
  ∃(V:SetV) (x:Nrm) (c:Col) (o:Opt),v=.agg (setC V x c o).toArray∧SetAt w V x c:=by
 obtain ⟨fuel,hf⟩:=h
 obtain ⟨cs,rfl,_⟩:=okWide_struct Tryz.underlying36 hok
 obtain ⟨xs,k,hk,hxy,hcl,hxl,hfs⟩:=DataW.trod_struct Tryz.underlying36 hf
 have h12:Tryz.prog.cellsOf 36=12:=by kernel_rfl
 rw [h12] at hcl
 obtain ⟨cs⟩:=cs
 simp only [Value.cells] at hcl hfs
 match xs,hxl,cs,hcl with
 | [y0,y1,y2],_,[v0,v1,v2,v3,v4,v5,v6,v7,v8,v9,v10,v11],_=>
  have g0:=hfs 0 _ rfl
  have g1:=hfs 1 _ rfl
  have g2:=hfs 2 _ rfl
  simp [cNo,cCo,cOp] at g0 g1 g2
  obtain ⟨A0,k0,A1,k1,A2,k2,x,e0,i0,j0⟩:=open_norm' g0
  obtain ⟨C,a,B,b,c,e1,i1,q1,r1,q2,r2⟩:=open_col' g1
  obtain ⟨o,e2⟩:=open_opt' g2
  simp at e0 e1 e2
  obtain ⟨rfl,rfl,rfl⟩:=e0
  obtain ⟨rfl,rfl,rfl,rfl,rfl⟩:=e1
  obtain ⟨rfl,rfl,rfl,rfl⟩:=e2
  exact ⟨⟨A0,k0,A1,k1,A2,k2,C,a,B,b⟩,x,c,o,rfl,⟨i0,j0,i1,q1,r1,q2,r2⟩⟩
theorem open_text {A:Option Addr} {n c:Nat} {d:DataW H} {p:List MemPlace} (h:DataW.Trod enc Tryz.prog w base spare held 37 (.slice A n c) d p) :
  ∃l:List Int,l.length=n∧Txt w A c l:=by
 obtain ⟨fuel,hf⟩:=h
 obtain ⟨A',n',c',l,e,h1,h2⟩:=open_txt hf
 have e':[Value.slice A n c]=[.slice A' n' c']:=e
 injection e' with e' _
 injection e' with ea en ec
 subst ea;subst en;subst ec
 exact ⟨l,h1,h2⟩
end
end Go.Proofs.YtijgbonhjcblcaaGreatDoor
