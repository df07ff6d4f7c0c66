/- Texts that are merged into one file: SkTreat. -/
import Derived.Test.YtijgbonhjcblcaaGreatDoorK03
import Derived.Test.YtijgbonhjcblcaaGreatDoorK04
import Derived.Test.YtijgbonhjcblcaaGreatDoorK10
import Derived.Test.YtijgbonhjcblcaaGreatDoorK12
set_option maxRecDepth 100000
set_option maxHeartbeats 51200000
namespace Go.Proofs.YtijgbonhjcblcaaGreatDoor
open Go.RowKit Go.Maps Go.WideMaps
theorem results_opt {fn:Func} (hr:fn.results=#[.cell 2 34]) (tmps:Array Value) (w:World) {b:Nat} {v0 v1 v2 v3:Value} (ha:tmps.getD 2 undef=.pointer (some ⟨b,0,none⟩))
  (c0:w.cell? ⟨b,0,none⟩=some v0) (c1:w.cell? ⟨b,1,none⟩=some v1) (c2:w.cell? ⟨b,2,none⟩=some v2) (c3:w.cell? ⟨b,3,none⟩=some v3) :
  (results fn tmps).run Tryz.prog w=.ok (.agg #[v0,v1,v2,v3]) w:=by
 unfold results
 rw [hr]
 simp only [ha,List.mapM_toArray,List.mapM_cons,List.mapM_nil,asAddr]
 go_simp
theorem results_w4 {fn:Func} (hr:fn.results=#[.cell 4 113]) (tmps:Array Value) (w:World) {b:Nat} {v0 v1 v2 v3:Value} (ha:tmps.getD 4 undef=.pointer (some ⟨b,0,none⟩))
  (c0:w.cell? ⟨b,0,none⟩=some v0) (c1:w.cell? ⟨b,1,none⟩=some v1) (c2:w.cell? ⟨b,2,none⟩=some v2) (c3:w.cell? ⟨b,3,none⟩=some v3) :
  (results fn tmps).run Tryz.prog w=.ok (.agg #[v0,v1,v2,v3]) w:=by
 unfold results
 rw [hr]
 simp only [ha,List.mapM_toArray,List.mapM_cons,List.mapM_nil,asAddr]
 go_simp
theorem effective_any (o:Opt) (w:World):Calls Tryz.prog 27 #[.agg #[.int .i64 o.st,.int .i64 o.va,.bool o.bk,.bool o.idn]] w (fun e w'=>e=.returned (.agg #[.int .i64 (optD o).st,.int .i64 (optD o).va,.bool (optD o).bk,.bool (optD o).idn])∧Below w.heap.size w w'):=by
 have CK:=Lib.hid (fun W=>skCheck_any o W)
 have OE:=Lib.hid (optErr_ok o)
 have O1:=Lib.hid (show optOk o=true→optD o=o from fun h=>if_pos h)
 have O0:=Lib.hid (show ¬optOk o=true→optD o=⟨3,1,false,false⟩ from fun h=>if_neg h)
 generalize optErr o=er at *
 generalize optOk o=ob at *
 generalize optD o=od at *
 obtain ⟨st,va,bk,idn⟩:=o
 dsimp only at *
 have B0:Below w.heap.size w ((w.alloc (.cells #[.int .i64 st,.int .i64 va,.bool bk,.bool idn] 34)).alloc (.cells #[.int .i64 0,.int .i64 0,.bool false,.bool false] 34)):=((Below.refl _ _).alloc (Nat.le_refl _) _).alloc (by simp) _
 have X0:Box ((w.alloc (.cells #[.int .i64 st,.int .i64 va,.bool bk,.bool idn] 34)).alloc (.cells #[.int .i64 0,.int .i64 0,.bool false,.bool false] 34)) w.heap.size 34 [.int .i64 st,.int .i64 va,.bool bk,.bool idn]:=(Box.new w 34 [.int .i64 st,.int .i64 va,.bool bk,.bool idn] rfl).below (B:=w.heap.size+1) ((Below.refl _ _).alloc (by simp) _) (by omega)
 have X1:Box ((w.alloc (.cells #[.int .i64 st,.int .i64 va,.bool bk,.bool idn] 34)).alloc (.cells #[.int .i64 0,.int .i64 0,.bool false,.bool false] 34)) (w.heap.size+1) 34 [.int .i64 0,.int .i64 0,.bool false,.bool false]:=Box.new _ _ _ (by simp)
 have W0E:∃W0,((w.alloc (.cells #[.int .i64 st,.int .i64 va,.bool bk,.bool idn] 34)).alloc (.cells #[.int .i64 0,.int .i64 0,.bool false,.bool false] 34))=W0:=⟨_,rfl⟩
 go_enter Tryz.func27,Tryz.ntmps27
 go_wp2_with fail
 obtain ⟨W0,hW0⟩:=W0E
 rw [hW0] at B0 X0 X1 ⊢
 clear hW0
 have s0:=X0.lt
 have s1:=X1.lt
 have c0:=X0.cell (i:=0) rfl
 have c1:=X0.cell (i:=1) rfl
 have c2:=X0.cell (i:=2) rfl
 have c3:=X0.cell (i:=3) rfl
 go_wp2_with fail
 with_reducible refine (CK.out _).mono ?_
 rintro e W1 ⟨rfl,hb1⟩
 have Y0:=X0.below hb1 s0
 have Y1:=X1.below hb1 s1
 have B1:=B0.trans (hb1.mono B0.size)
 clear c0 c1 c2 c3 X0 X1 B0 hb1 CK
 have c0:=Y0.cell (i:=0) rfl
 have c1:=Y0.cell (i:=1) rfl
 have c2:=Y0.cell (i:=2) rfl
 have c3:=Y0.cell (i:=3) rfl
 have d0:=Y1.cell (i:=0) rfl
 have d1:=Y1.cell (i:=1) rfl
 have d2:=Y1.cell (i:=2) rfl
 have d3:=Y1.cell (i:=3) rfl
 have f0:=Y1.free 0
 have f1:=Y1.free 1
 have f2:=Y1.free 2
 have f3:=Y1.free 3
 have HB:=Lib.hid (fun (u0 u1 u2 u3:Value)=>show Below w.heap.size w ((((W1.setCell ⟨w.heap.size+1,0,none⟩ u0).setCell ⟨w.heap.size+1,1,none⟩ u1).setCell ⟨w.heap.size+1,2,none⟩ u2).setCell ⟨w.heap.size+1,3,none⟩ u3) from (((B1.setCell (by simp) _).setCell (by simp) _).setCell (by simp) _).setCell (by simp) _)
 by_cases h0:er=0
 ·have HO:=Lib.hid (O1.out (OE.out.1 h0))
  subst h0
  clear O1 O0 OE
  go_wp2_with fail
  (try simp only [Exit.inBlock,Exit.then]);refine bodyPost_ret (results_opt rfl _ _ (b:=w.heap.size+1) (v0:=.int .i64 st) (v1:=.int .i64 va) (v2:=.bool bk) (v3:=.bool idn) rfl (by go_simp) (by go_simp) (by go_simp) (by go_simp)) rfl ?_
  exact ⟨by rw [HO.out],HB.out _ _ _ _⟩
 ·have HO:=Lib.hid (O0.out (fun g=>h0 (OE.out.2 g)))
  have h1:(er != 0)=true:=by simpa using h0
  clear O1 O0 OE h0
  go_wp2_with fail
  (try simp only [Exit.inBlock,Exit.then]);refine bodyPost_ret (results_opt rfl _ _ (b:=w.heap.size+1) (v0:=.int .i64 3) (v1:=.int .i64 1) (v2:=.bool false) (v3:=.bool false) rfl (by go_simp) (by go_simp) (by go_simp) (by go_simp)) rfl ?_
  exact ⟨by rw [HO.out],HB.out _ _ _ _⟩
def wghV (s:Nat):Value:=.func (.func 112) #[] #[.pointer (some ⟨s,0,none⟩),.pointer (some ⟨s+1,0,none⟩)]
structure WghAt (w:World) (s:Nat) (va:Int) (a:Bool):Prop where
 b0:Box w s 3 [.int .i64 va]
 b1:Box w (s+1) 4 [.bool a]
theorem WghAt.below {w w':World} {s:Nat} {va:Int} {a:Bool} (h:WghAt w s va a) (hb:Below w.heap.size w w'):WghAt w' s va a:=⟨h.b0.below hb h.b0.lt,h.b1.below hb h.b1.lt⟩
def RetTreat (va:Int) (w:World) (e:Ending) (w':World):Prop:=e=.returned (wghV w.heap.size)∧WghAt w' w.heap.size va false∧Below w.heap.size w w'
theorem treatment_any (va:Int) (w:World):Calls Tryz.prog 66 #[.int .i64 va] w (RetTreat va w):=by
 have B0:Below w.heap.size w ((w.alloc (.cells #[.int .i64 va] 3)).alloc (.cells #[.bool false] 4)):=((Below.refl _ _).alloc (Nat.le_refl _) _).alloc (by simp) _
 have X0:Box ((w.alloc (.cells #[.int .i64 va] 3)).alloc (.cells #[.bool false] 4)) w.heap.size 3 [.int .i64 va]:=(Box.new w 3 [.int .i64 va] rfl).below (B:=w.heap.size+1) ((Below.refl _ _).alloc (by simp) _) (by omega)
 have X1:Box ((w.alloc (.cells #[.int .i64 va] 3)).alloc (.cells #[.bool false] 4)) (w.heap.size+1) 4 [.bool false]:=Box.new _ _ _ (by simp)
 go_enter Tryz.func66,Tryz.ntmps66
 go_wp2_with fail
 go_ret
 first
  | exact ⟨rfl,⟨X0,X1⟩,B0⟩
  | exact ⟨rfl,⟨X0,X1.set 0 _⟩,B0.setCell (by simp) _⟩
theorem gr_alloc {a w:World} {r:Option Nat} (h:a.grownBy w r) (o:Obj):a.grownBy (w.alloc o) r:=grownR_below h ((Below.refl _ _).alloc (Nat.le_refl _) _)
theorem gr_new {a w:World} {r:Option Nat} (h:a.grownBy w r) (p:Addr) (hp:a.heap.size≤p.block) (v:Value):a.grownBy (w.setCell p v) r:=
 ⟨h.os,h.tape,h.output,by simp [World.setCell];exact h.size,fun k hk hne=>(Below.heap_setCell w p v k (by omega)).trans (h.block k hk hne)⟩
theorem gr_set {a w:World} {p:Addr} (h:a.grownBy w (some p.block)) (v:Value):a.grownBy (w.setCell p v) (some p.block):=grownR_trans h (grown_set _ _ _)
theorem bx_alloc {w:World} {b:Nat} {t:TypeId} {cs:List Value} (h:Box w b t cs) (o:Obj):Box (w.alloc o) b t cs:=h.below ((Below.refl _ _).alloc (Nat.le_refl _) _) h.lt
theorem bx_ne {w:World} {b:Nat} {t:TypeId} {cs:List Value} (h:Box w b t cs) (p:Addr) (hp:b≠p.block) (v:Value):Box (w.setCell p v) b t cs:=(Below.heap_setCell w p v b (fun e=>hp e)).trans h
theorem run_equalIn_array4 {P:Program} (w:World) (d:Nat) (t e:TypeId) (k:IntKind) (i:TypeInfo) (ht:P.underlying t=some (.array 4 e)) (he:P.underlying e=some (.int k)) (hi:P.info? e=some i) (hs:i.size=1) (a b c f a' b' c' f':Int) :
  (Op.equalIn (d+2) t (.agg #[.int k a,.int k b,.int k c,.int k f]) (.agg #[.int k a',.int k b',.int k c',.int k f'])).run P w=.ok (a==a'&&b==b'&&c==c'&&f==f') w:=by
 have e0:∀W,(Op.equalIn (d+1) e (.int k a) (.int k a')).run P W=.ok (a==a') W:=fun W=>run_equalIn_int W d e k k a a' he
 have e1:∀W,(Op.equalIn (d+1) e (.int k b) (.int k b')).run P W=.ok (b==b') W:=fun W=>run_equalIn_int W d e k k b b' he
 have e2:∀W,(Op.equalIn (d+1) e (.int k c) (.int k c')).run P W=.ok (c==c') W:=fun W=>run_equalIn_int W d e k k c c' he
 have e3:∀W,(Op.equalIn (d+1) e (.int k f) (.int k f')).run P W=.ok (f==f') W:=fun W=>run_equalIn_int W d e k k f f' he
 have p0:=fun (xs:Array Value) (v:Value)=>run_part_int (P:=P) w e k he xs 0 v
 have p1:=fun (xs:Array Value) (v:Value)=>run_part_int (P:=P) w e k he xs 1 v
 have p2:=fun (xs:Array Value) (v:Value)=>run_part_int (P:=P) w e k he xs 2 v
 have p3:=fun (xs:Array Value) (v:Value)=>run_part_int (P:=P) w e k he xs 3 v
 rw [Op.equalIn]
 simp only [Sem.run_bind,run_underlying ht,Result.andThen_ok,sizeOf,typeInfo,Sem.run_pure]
 simp [Std.Legacy.Range.forIn_eq_forIn_range',List.range',e0,e1,e2,e3,p0,p1,p2,p3,hi,hs]
 by_cases h1:a=a' <;> by_cases h2:b=b' <;> by_cases h3:c=c' <;> by_cases h4:f=f' <;> simp [h1,h2,h3,h4]
structure RetWgh (va:Int) (a:Bool) (x:Elt) (bf:Nat) (w:World) (e:Ending) (w':World):Prop where
 ret:e=.returned (.agg #[.int .i64 (wtE va (aftE a x) x 0),.int .i64 (wtE va (aftE a x) x 1),.int .i64 (wtE va (aftE a x) x 2),.int .i64 (wtE va (aftE a x) x 3)])
 box:Box w' bf 4 [.bool (if va=1 then a else aftE a x)]
 gr:w.grownBy w' (some bf)
theorem wgh_n0 (p s t:Int) (v:Bool) (va:Int) (a:Bool) (bv bf:Nat) (w:World) (hv:Box w bv 3 [.int .i64 va]) (hf:Box w bf 4 [.bool a]) (hz:p=0∧s=0∧t=0) (h1:va=1) :
  Calls Tryz.prog 112 #[.agg #[.int .i64 p,.int .i64 s,.int .i64 t,.bool v],.pointer (some ⟨bv,0,none⟩),.pointer (some ⟨bf,0,none⟩)] w (fun e w'=>e=.returned (.agg #[.int .i64 0,.int .i64 0,.int .i64 0,.int .i64 0])∧Box w' bf 4 [.bool a]∧w.grownBy w' (some bf)):=by
 have cv:=hv.cell (i:=0) rfl
 have cf:=hf.cell (i:=0) rfl
 have ff:=hf.free 0
 have lv:=hv.lt
 have lf:=hf.lt
 have lv1:bv < w.heap.size+1:=by omega
 have lv2:bv < w.heap.size+1+1:=by omega
 have lf1:bf < w.heap.size+1:=by omega
 have lf2:bf < w.heap.size+1+1:=by omega
 have m1:¬bf=w.heap.size:=by omega
 have m2:¬bf=w.heap.size+1:=by omega
 have m3:¬bf=w.heap.size+1+1:=by omega
 have l1:¬w.heap.size=bf:=by omega
 have l2:¬w.heap.size+1=bf:=by omega
 have l3:¬w.heap.size+1+1=bf:=by omega
 obtain ⟨i0,hi,hz0,hz1,hz2⟩:=info_parts info_int
 have q4:=fun W x y z f x' y' z' f'=>run_equalIn_array4 (P:=Tryz.prog) W 9998 113 3 .i64 i0 Tryz.underlying113 Tryz.underlying3 hi hz1 x y z f x' y' z' f'
 have x1:¬bv=bf:=by
  intro e
  subst e
  rw [cv] at cf
  cases cf
 have x2:¬bf=bv:=fun e=>x1 e.symm
 have HF:=Lib.hid hf
 clear hi hz0 hz1 hz2 hv hf
 subst h1
 obtain ⟨rfl,rfl,rfl⟩:=hz
 go_enter Tryz.func112,Tryz.ntmps112
 go_wp2_with fail
 (try simp only [Exit.inBlock,Exit.then]);refine bodyPost_ret (results_w4 rfl _ _ (b:=w.heap.size+1) rfl (by go_simp;try rfl) (by go_simp;try rfl) (by go_simp;try rfl) (by go_simp;try rfl)) rfl ?_
 refine ⟨rfl,?_,?_⟩
 ·repeat (first | exact HF.out | exact Box.set HF.out 0 _ | refine bx_alloc ?_ _ | refine bx_ne ?_ _ (by assumption) _ | refine Box.set (cs:=[_]) ?_ 0 _)
 ·repeat (first | exact grownR_refl _ _ | refine gr_alloc ?_ _ | refine gr_set (p:=⟨bf,0,none⟩) ?_ _ | refine gr_new ?_ _ (by simp <;> omega) _)
theorem wgh_n1 (p s t:Int) (v:Bool) (va:Int) (a:Bool) (bv bf:Nat) (w:World) (hv:Box w bv 3 [.int .i64 va]) (hf:Box w bf 4 [.bool a]) (hz:¬(p=0∧s=0∧t=0)) (h1:va=1) :
  Calls Tryz.prog 112 #[.agg #[.int .i64 p,.int .i64 s,.int .i64 t,.bool v],.pointer (some ⟨bv,0,none⟩),.pointer (some ⟨bf,0,none⟩)] w (fun e w'=>e=.returned (.agg #[.int .i64 p,.int .i64 s,.int .i64 t,.int .i64 65535])∧Box w' bf 4 [.bool a]∧w.grownBy w' (some bf)):=by
 have cv:=hv.cell (i:=0) rfl
 have cf:=hf.cell (i:=0) rfl
 have ff:=hf.free 0
 have lv:=hv.lt
 have lf:=hf.lt
 have lv1:bv < w.heap.size+1:=by omega
 have lv2:bv < w.heap.size+1+1:=by omega
 have lf1:bf < w.heap.size+1:=by omega
 have lf2:bf < w.heap.size+1+1:=by omega
 have m1:¬bf=w.heap.size:=by omega
 have m2:¬bf=w.heap.size+1:=by omega
 have m3:¬bf=w.heap.size+1+1:=by omega
 have l1:¬w.heap.size=bf:=by omega
 have l2:¬w.heap.size+1=bf:=by omega
 have l3:¬w.heap.size+1+1=bf:=by omega
 obtain ⟨i0,hi,hz0,hz1,hz2⟩:=info_parts info_int
 have q4:=fun W x y z f x' y' z' f'=>run_equalIn_array4 (P:=Tryz.prog) W 9998 113 3 .i64 i0 Tryz.underlying113 Tryz.underlying3 hi hz1 x y z f x' y' z' f'
 have x1:¬bv=bf:=by
  intro e
  subst e
  rw [cv] at cf
  cases cf
 have x2:¬bf=bv:=fun e=>x1 e.symm
 have HF:=Lib.hid hf
 clear hi hz0 hz1 hz2 hv hf
 subst h1
 have qz:(p==0&&s==0&&t==0&&true)=false:=by cases h:(p==0&&s==0&&t==0&&true) with | false=>rfl | true=>(simp at h;exact absurd ⟨h.1.1,h.1.2,h.2⟩ hz)
 have qz2:(p==0&&s==0&&t==0)=false:=by cases h:(p==0&&s==0&&t==0) with | false=>rfl | true=>(simp at h;exact absurd ⟨h.1.1,h.1.2,h.2⟩ hz)
 clear hz
 go_enter Tryz.func112,Tryz.ntmps112
 go_wp2_with fail
 (try simp only [Exit.inBlock,Exit.then]);refine bodyPost_ret (results_w4 rfl _ _ (b:=w.heap.size+1) rfl (by go_simp;try rfl) (by go_simp;try rfl) (by go_simp;try rfl) (by go_simp;try rfl)) rfl ?_
 refine ⟨rfl,?_,?_⟩
 ·repeat (first | exact HF.out | exact Box.set HF.out 0 _ | refine bx_alloc ?_ _ | refine bx_ne ?_ _ (by assumption) _ | refine Box.set (cs:=[_]) ?_ 0 _)
 ·repeat (first | exact grownR_refl _ _ | refine gr_alloc ?_ _ | refine gr_set (p:=⟨bf,0,none⟩) ?_ _ | refine gr_new ?_ _ (by simp <;> omega) _)
theorem wgh_2v0 (p s t:Int) (v:Bool) (va:Int) (a:Bool) (bv bf:Nat) (w:World) (hv:Box w bv 3 [.int .i64 va]) (hf:Box w bf 4 [.bool a]) (hz:p=0∧s=0∧t=0) (h1:va=2) (h2:v=true) :
  Calls Tryz.prog 112 #[.agg #[.int .i64 p,.int .i64 s,.int .i64 t,.bool v],.pointer (some ⟨bv,0,none⟩),.pointer (some ⟨bf,0,none⟩)] w (fun e w'=>e=.returned (.agg #[.int .i64 0,.int .i64 0,.int .i64 0,.int .i64 0])∧Box w' bf 4 [.bool true]∧w.grownBy w' (some bf)):=by
 have cv:=hv.cell (i:=0) rfl
 have cf:=hf.cell (i:=0) rfl
 have ff:=hf.free 0
 have lv:=hv.lt
 have lf:=hf.lt
 have lv1:bv < w.heap.size+1:=by omega
 have lv2:bv < w.heap.size+1+1:=by omega
 have lf1:bf < w.heap.size+1:=by omega
 have lf2:bf < w.heap.size+1+1:=by omega
 have m1:¬bf=w.heap.size:=by omega
 have m2:¬bf=w.heap.size+1:=by omega
 have m3:¬bf=w.heap.size+1+1:=by omega
 have l1:¬w.heap.size=bf:=by omega
 have l2:¬w.heap.size+1=bf:=by omega
 have l3:¬w.heap.size+1+1=bf:=by omega
 obtain ⟨i0,hi,hz0,hz1,hz2⟩:=info_parts info_int
 have q4:=fun W x y z f x' y' z' f'=>run_equalIn_array4 (P:=Tryz.prog) W 9998 113 3 .i64 i0 Tryz.underlying113 Tryz.underlying3 hi hz1 x y z f x' y' z' f'
 have x1:¬bv=bf:=by
  intro e
  subst e
  rw [cv] at cf
  cases cf
 have x2:¬bf=bv:=fun e=>x1 e.symm
 have HF:=Lib.hid hf
 clear hi hz0 hz1 hz2 hv hf
 subst h1
 subst h2
 obtain ⟨rfl,rfl,rfl⟩:=hz
 go_enter Tryz.func112,Tryz.ntmps112
 go_wp2_with fail
 (try simp only [Exit.inBlock,Exit.then]);refine bodyPost_ret (results_w4 rfl _ _ (b:=w.heap.size+1) rfl (by go_simp;try rfl) (by go_simp;try rfl) (by go_simp;try rfl) (by go_simp;try rfl)) rfl ?_
 refine ⟨rfl,?_,?_⟩
 ·repeat (first | exact HF.out | exact Box.set HF.out 0 _ | refine bx_alloc ?_ _ | refine bx_ne ?_ _ (by assumption) _ | refine Box.set (cs:=[_]) ?_ 0 _)
 ·repeat (first | exact grownR_refl _ _ | refine gr_alloc ?_ _ | refine gr_set (p:=⟨bf,0,none⟩) ?_ _ | refine gr_new ?_ _ (by simp <;> omega) _)
theorem wgh_2v1 (p s t:Int) (v:Bool) (va:Int) (a:Bool) (bv bf:Nat) (w:World) (hv:Box w bv 3 [.int .i64 va]) (hf:Box w bf 4 [.bool a]) (hz:¬(p=0∧s=0∧t=0)) (h1:va=2) (h2:v=true) :
  Calls Tryz.prog 112 #[.agg #[.int .i64 p,.int .i64 s,.int .i64 t,.bool v],.pointer (some ⟨bv,0,none⟩),.pointer (some ⟨bf,0,none⟩)] w (fun e w'=>e=.returned (.agg #[.int .i64 0,.int .i64 0,.int .i64 0,.int .i64 0])∧Box w' bf 4 [.bool true]∧w.grownBy w' (some bf)):=by
 have cv:=hv.cell (i:=0) rfl
 have cf:=hf.cell (i:=0) rfl
 have ff:=hf.free 0
 have lv:=hv.lt
 have lf:=hf.lt
 have lv1:bv < w.heap.size+1:=by omega
 have lv2:bv < w.heap.size+1+1:=by omega
 have lf1:bf < w.heap.size+1:=by omega
 have lf2:bf < w.heap.size+1+1:=by omega
 have m1:¬bf=w.heap.size:=by omega
 have m2:¬bf=w.heap.size+1:=by omega
 have m3:¬bf=w.heap.size+1+1:=by omega
 have l1:¬w.heap.size=bf:=by omega
 have l2:¬w.heap.size+1=bf:=by omega
 have l3:¬w.heap.size+1+1=bf:=by omega
 obtain ⟨i0,hi,hz0,hz1,hz2⟩:=info_parts info_int
 have q4:=fun W x y z f x' y' z' f'=>run_equalIn_array4 (P:=Tryz.prog) W 9998 113 3 .i64 i0 Tryz.underlying113 Tryz.underlying3 hi hz1 x y z f x' y' z' f'
 have x1:¬bv=bf:=by
  intro e
  subst e
  rw [cv] at cf
  cases cf
 have x2:¬bf=bv:=fun e=>x1 e.symm
 have HF:=Lib.hid hf
 clear hi hz0 hz1 hz2 hv hf
 subst h1
 subst h2
 have qz:(p==0&&s==0&&t==0&&true)=false:=by cases h:(p==0&&s==0&&t==0&&true) with | false=>rfl | true=>(simp at h;exact absurd ⟨h.1.1,h.1.2,h.2⟩ hz)
 have qz2:(p==0&&s==0&&t==0)=false:=by cases h:(p==0&&s==0&&t==0) with | false=>rfl | true=>(simp at h;exact absurd ⟨h.1.1,h.1.2,h.2⟩ hz)
 clear hz
 go_enter Tryz.func112,Tryz.ntmps112
 go_wp2_with fail
 (try simp only [Exit.inBlock,Exit.then]);refine bodyPost_ret (results_w4 rfl _ _ (b:=w.heap.size+1) rfl (by go_simp;try rfl) (by go_simp;try rfl) (by go_simp;try rfl) (by go_simp;try rfl)) rfl ?_
 refine ⟨rfl,?_,?_⟩
 ·repeat (first | exact HF.out | exact Box.set HF.out 0 _ | refine bx_alloc ?_ _ | refine bx_ne ?_ _ (by assumption) _ | refine Box.set (cs:=[_]) ?_ 0 _)
 ·repeat (first | exact grownR_refl _ _ | refine gr_alloc ?_ _ | refine gr_set (p:=⟨bf,0,none⟩) ?_ _ | refine gr_new ?_ _ (by simp <;> omega) _)
theorem wgh_2p (p s t:Int) (v:Bool) (va:Int) (a:Bool) (bv bf:Nat) (w:World) (hv:Box w bv 3 [.int .i64 va]) (hf:Box w bf 4 [.bool a]) (hz:¬(p=0∧s=0∧t=0)) (h1:va=2) (h2:v=false) (h3:¬p=0) :
  Calls Tryz.prog 112 #[.agg #[.int .i64 p,.int .i64 s,.int .i64 t,.bool v],.pointer (some ⟨bv,0,none⟩),.pointer (some ⟨bf,0,none⟩)] w (fun e w'=>e=.returned (.agg #[.int .i64 p,.int .i64 s,.int .i64 t,.int .i64 0])∧Box w' bf 4 [.bool false]∧w.grownBy w' (some bf)):=by
 have cv:=hv.cell (i:=0) rfl
 have cf:=hf.cell (i:=0) rfl
 have ff:=hf.free 0
 have lv:=hv.lt
 have lf:=hf.lt
 have lv1:bv < w.heap.size+1:=by omega
 have lv2:bv < w.heap.size+1+1:=by omega
 have lf1:bf < w.heap.size+1:=by omega
 have lf2:bf < w.heap.size+1+1:=by omega
 have m1:¬bf=w.heap.size:=by omega
 have m2:¬bf=w.heap.size+1:=by omega
 have m3:¬bf=w.heap.size+1+1:=by omega
 have l1:¬w.heap.size=bf:=by omega
 have l2:¬w.heap.size+1=bf:=by omega
 have l3:¬w.heap.size+1+1=bf:=by omega
 obtain ⟨i0,hi,hz0,hz1,hz2⟩:=info_parts info_int
 have q4:=fun W x y z f x' y' z' f'=>run_equalIn_array4 (P:=Tryz.prog) W 9998 113 3 .i64 i0 Tryz.underlying113 Tryz.underlying3 hi hz1 x y z f x' y' z' f'
 have x1:¬bv=bf:=by
  intro e
  subst e
  rw [cv] at cf
  cases cf
 have x2:¬bf=bv:=fun e=>x1 e.symm
 have HF:=Lib.hid hf
 clear hi hz0 hz1 hz2 hv hf
 subst h1
 subst h2
 have qp:(p != 0)=true:=by simpa using h3
 clear h3
 have qz:(p==0&&s==0&&t==0&&true)=false:=by cases h:(p==0&&s==0&&t==0&&true) with | false=>rfl | true=>(simp at h;exact absurd ⟨h.1.1,h.1.2,h.2⟩ hz)
 have qz2:(p==0&&s==0&&t==0)=false:=by cases h:(p==0&&s==0&&t==0) with | false=>rfl | true=>(simp at h;exact absurd ⟨h.1.1,h.1.2,h.2⟩ hz)
 clear hz
 go_enter Tryz.func112,Tryz.ntmps112
 go_wp2_with fail
 (try simp only [Exit.inBlock,Exit.then]);refine bodyPost_ret (results_w4 rfl _ _ (b:=w.heap.size+1) rfl (by go_simp;try rfl) (by go_simp;try rfl) (by go_simp;try rfl) (by go_simp;try rfl)) rfl ?_
 refine ⟨rfl,?_,?_⟩
 ·repeat (first | exact HF.out | exact Box.set HF.out 0 _ | refine bx_alloc ?_ _ | refine bx_ne ?_ _ (by assumption) _ | refine Box.set (cs:=[_]) ?_ 0 _)
 ·repeat (first | exact grownR_refl _ _ | refine gr_alloc ?_ _ | refine gr_set (p:=⟨bf,0,none⟩) ?_ _ | refine gr_new ?_ _ (by simp <;> omega) _)
theorem wgh_2t0 (p s t:Int) (v:Bool) (va:Int) (a:Bool) (bv bf:Nat) (w:World) (hv:Box w bv 3 [.int .i64 va]) (hf:Box w bf 4 [.bool a]) (hz:p=0∧s=0∧t=0) (h1:va=2) (h2:v=false) (h4:a=true) :
  Calls Tryz.prog 112 #[.agg #[.int .i64 p,.int .i64 s,.int .i64 t,.bool v],.pointer (some ⟨bv,0,none⟩),.pointer (some ⟨bf,0,none⟩)] w (fun e w'=>e=.returned (.agg #[.int .i64 0,.int .i64 0,.int .i64 0,.int .i64 0])∧Box w' bf 4 [.bool true]∧w.grownBy w' (some bf)):=by
 have cv:=hv.cell (i:=0) rfl
 have cf:=hf.cell (i:=0) rfl
 have ff:=hf.free 0
 have lv:=hv.lt
 have lf:=hf.lt
 have lv1:bv < w.heap.size+1:=by omega
 have lv2:bv < w.heap.size+1+1:=by omega
 have lf1:bf < w.heap.size+1:=by omega
 have lf2:bf < w.heap.size+1+1:=by omega
 have m1:¬bf=w.heap.size:=by omega
 have m2:¬bf=w.heap.size+1:=by omega
 have m3:¬bf=w.heap.size+1+1:=by omega
 have l1:¬w.heap.size=bf:=by omega
 have l2:¬w.heap.size+1=bf:=by omega
 have l3:¬w.heap.size+1+1=bf:=by omega
 obtain ⟨i0,hi,hz0,hz1,hz2⟩:=info_parts info_int
 have q4:=fun W x y z f x' y' z' f'=>run_equalIn_array4 (P:=Tryz.prog) W 9998 113 3 .i64 i0 Tryz.underlying113 Tryz.underlying3 hi hz1 x y z f x' y' z' f'
 have x1:¬bv=bf:=by
  intro e
  subst e
  rw [cv] at cf
  cases cf
 have x2:¬bf=bv:=fun e=>x1 e.symm
 have HF:=Lib.hid hf
 clear hi hz0 hz1 hz2 hv hf
 subst h1
 subst h2
 subst h4
 obtain ⟨rfl,rfl,rfl⟩:=hz
 go_enter Tryz.func112,Tryz.ntmps112
 go_wp2_with fail
 (try simp only [Exit.inBlock,Exit.then]);refine bodyPost_ret (results_w4 rfl _ _ (b:=w.heap.size+1) rfl (by go_simp;try rfl) (by go_simp;try rfl) (by go_simp;try rfl) (by go_simp;try rfl)) rfl ?_
 refine ⟨rfl,?_,?_⟩
 ·repeat (first | exact HF.out | exact Box.set HF.out 0 _ | refine bx_alloc ?_ _ | refine bx_ne ?_ _ (by assumption) _ | refine Box.set (cs:=[_]) ?_ 0 _)
 ·repeat (first | exact grownR_refl _ _ | refine gr_alloc ?_ _ | refine gr_set (p:=⟨bf,0,none⟩) ?_ _ | refine gr_new ?_ _ (by simp <;> omega) _)
theorem wgh_2t1 (p s t:Int) (v:Bool) (va:Int) (a:Bool) (bv bf:Nat) (w:World) (hv:Box w bv 3 [.int .i64 va]) (hf:Box w bf 4 [.bool a]) (hz:¬(s=0∧t=0)) (h1:va=2) (h2:v=false) (h3:p=0) (h4:a=true) :
  Calls Tryz.prog 112 #[.agg #[.int .i64 p,.int .i64 s,.int .i64 t,.bool v],.pointer (some ⟨bv,0,none⟩),.pointer (some ⟨bf,0,none⟩)] w (fun e w'=>e=.returned (.agg #[.int .i64 0,.int .i64 0,.int .i64 0,.int .i64 0])∧Box w' bf 4 [.bool true]∧w.grownBy w' (some bf)):=by
 have cv:=hv.cell (i:=0) rfl
 have cf:=hf.cell (i:=0) rfl
 have ff:=hf.free 0
 have lv:=hv.lt
 have lf:=hf.lt
 have lv1:bv < w.heap.size+1:=by omega
 have lv2:bv < w.heap.size+1+1:=by omega
 have lf1:bf < w.heap.size+1:=by omega
 have lf2:bf < w.heap.size+1+1:=by omega
 have m1:¬bf=w.heap.size:=by omega
 have m2:¬bf=w.heap.size+1:=by omega
 have m3:¬bf=w.heap.size+1+1:=by omega
 have l1:¬w.heap.size=bf:=by omega
 have l2:¬w.heap.size+1=bf:=by omega
 have l3:¬w.heap.size+1+1=bf:=by omega
 obtain ⟨i0,hi,hz0,hz1,hz2⟩:=info_parts info_int
 have q4:=fun W x y z f x' y' z' f'=>run_equalIn_array4 (P:=Tryz.prog) W 9998 113 3 .i64 i0 Tryz.underlying113 Tryz.underlying3 hi hz1 x y z f x' y' z' f'
 have x1:¬bv=bf:=by
  intro e
  subst e
  rw [cv] at cf
  cases cf
 have x2:¬bf=bv:=fun e=>x1 e.symm
 have HF:=Lib.hid hf
 clear hi hz0 hz1 hz2 hv hf
 subst h1
 subst h2
 subst h3
 subst h4
 have qz:(s==0&&t==0&&true)=false:=by cases h:(s==0&&t==0&&true) with | false=>rfl | true=>(simp at h;exact absurd ⟨h.1,h.2⟩ hz)
 have qz2:(s==0&&t==0)=false:=by cases h:(s==0&&t==0) with | false=>rfl | true=>(simp at h;exact absurd ⟨h.1,h.2⟩ hz)
 clear hz
 go_enter Tryz.func112,Tryz.ntmps112
 go_wp2_with fail
 (try simp only [Exit.inBlock,Exit.then]);refine bodyPost_ret (results_w4 rfl _ _ (b:=w.heap.size+1) rfl (by go_simp;try rfl) (by go_simp;try rfl) (by go_simp;try rfl) (by go_simp;try rfl)) rfl ?_
 refine ⟨rfl,?_,?_⟩
 ·repeat (first | exact HF.out | exact Box.set HF.out 0 _ | refine bx_alloc ?_ _ | refine bx_ne ?_ _ (by assumption) _ | refine Box.set (cs:=[_]) ?_ 0 _)
 ·repeat (first | exact grownR_refl _ _ | refine gr_alloc ?_ _ | refine gr_set (p:=⟨bf,0,none⟩) ?_ _ | refine gr_new ?_ _ (by simp <;> omega) _)
theorem wgh_2f0 (p s t:Int) (v:Bool) (va:Int) (a:Bool) (bv bf:Nat) (w:World) (hv:Box w bv 3 [.int .i64 va]) (hf:Box w bf 4 [.bool a]) (hz:p=0∧s=0∧t=0) (h1:va=2) (h2:v=false) (h4:a=false) :
  Calls Tryz.prog 112 #[.agg #[.int .i64 p,.int .i64 s,.int .i64 t,.bool v],.pointer (some ⟨bv,0,none⟩),.pointer (some ⟨bf,0,none⟩)] w (fun e w'=>e=.returned (.agg #[.int .i64 0,.int .i64 0,.int .i64 0,.int .i64 0])∧Box w' bf 4 [.bool false]∧w.grownBy w' (some bf)):=by
 have cv:=hv.cell (i:=0) rfl
 have cf:=hf.cell (i:=0) rfl
 have ff:=hf.free 0
 have lv:=hv.lt
 have lf:=hf.lt
 have lv1:bv < w.heap.size+1:=by omega
 have lv2:bv < w.heap.size+1+1:=by omega
 have lf1:bf < w.heap.size+1:=by omega
 have lf2:bf < w.heap.size+1+1:=by omega
 have m1:¬bf=w.heap.size:=by omega
 have m2:¬bf=w.heap.size+1:=by omega
 have m3:¬bf=w.heap.size+1+1:=by omega
 have l1:¬w.heap.size=bf:=by omega
 have l2:¬w.heap.size+1=bf:=by omega
 have l3:¬w.heap.size+1+1=bf:=by omega
 obtain ⟨i0,hi,hz0,hz1,hz2⟩:=info_parts info_int
 have q4:=fun W x y z f x' y' z' f'=>run_equalIn_array4 (P:=Tryz.prog) W 9998 113 3 .i64 i0 Tryz.underlying113 Tryz.underlying3 hi hz1 x y z f x' y' z' f'
 have x1:¬bv=bf:=by
  intro e
  subst e
  rw [cv] at cf
  cases cf
 have x2:¬bf=bv:=fun e=>x1 e.symm
 have HF:=Lib.hid hf
 clear hi hz0 hz1 hz2 hv hf
 subst h1
 subst h2
 subst h4
 obtain ⟨rfl,rfl,rfl⟩:=hz
 go_enter Tryz.func112,Tryz.ntmps112
 go_wp2_with fail
 (try simp only [Exit.inBlock,Exit.then]);refine bodyPost_ret (results_w4 rfl _ _ (b:=w.heap.size+1) rfl (by go_simp;try rfl) (by go_simp;try rfl) (by go_simp;try rfl) (by go_simp;try rfl)) rfl ?_
 refine ⟨rfl,?_,?_⟩
 ·repeat (first | exact HF.out | exact Box.set HF.out 0 _ | refine bx_alloc ?_ _ | refine bx_ne ?_ _ (by assumption) _ | refine Box.set (cs:=[_]) ?_ 0 _)
 ·repeat (first | exact grownR_refl _ _ | refine gr_alloc ?_ _ | refine gr_set (p:=⟨bf,0,none⟩) ?_ _ | refine gr_new ?_ _ (by simp <;> omega) _)
theorem wgh_2f1 (p s t:Int) (v:Bool) (va:Int) (a:Bool) (bv bf:Nat) (w:World) (hv:Box w bv 3 [.int .i64 va]) (hf:Box w bf 4 [.bool a]) (hz:¬(s=0∧t=0)) (h1:va=2) (h2:v=false) (h3:p=0) (h4:a=false) :
  Calls Tryz.prog 112 #[.agg #[.int .i64 p,.int .i64 s,.int .i64 t,.bool v],.pointer (some ⟨bv,0,none⟩),.pointer (some ⟨bf,0,none⟩)] w (fun e w'=>e=.returned (.agg #[.int .i64 0,.int .i64 s,.int .i64 t,.int .i64 0])∧Box w' bf 4 [.bool false]∧w.grownBy w' (some bf)):=by
 have cv:=hv.cell (i:=0) rfl
 have cf:=hf.cell (i:=0) rfl
 have ff:=hf.free 0
 have lv:=hv.lt
 have lf:=hf.lt
 have lv1:bv < w.heap.size+1:=by omega
 have lv2:bv < w.heap.size+1+1:=by omega
 have lf1:bf < w.heap.size+1:=by omega
 have lf2:bf < w.heap.size+1+1:=by omega
 have m1:¬bf=w.heap.size:=by omega
 have m2:¬bf=w.heap.size+1:=by omega
 have m3:¬bf=w.heap.size+1+1:=by omega
 have l1:¬w.heap.size=bf:=by omega
 have l2:¬w.heap.size+1=bf:=by omega
 have l3:¬w.heap.size+1+1=bf:=by omega
 obtain ⟨i0,hi,hz0,hz1,hz2⟩:=info_parts info_int
 have q4:=fun W x y z f x' y' z' f'=>run_equalIn_array4 (P:=Tryz.prog) W 9998 113 3 .i64 i0 Tryz.underlying113 Tryz.underlying3 hi hz1 x y z f x' y' z' f'
 have x1:¬bv=bf:=by
  intro e
  subst e
  rw [cv] at cf
  cases cf
 have x2:¬bf=bv:=fun e=>x1 e.symm
 have HF:=Lib.hid hf
 clear hi hz0 hz1 hz2 hv hf
 subst h1
 subst h2
 subst h3
 subst h4
 have qz:(s==0&&t==0&&true)=false:=by cases h:(s==0&&t==0&&true) with | false=>rfl | true=>(simp at h;exact absurd ⟨h.1,h.2⟩ hz)
 have qz2:(s==0&&t==0)=false:=by cases h:(s==0&&t==0) with | false=>rfl | true=>(simp at h;exact absurd ⟨h.1,h.2⟩ hz)
 clear hz
 go_enter Tryz.func112,Tryz.ntmps112
 go_wp2_with fail
 (try simp only [Exit.inBlock,Exit.then]);refine bodyPost_ret (results_w4 rfl _ _ (b:=w.heap.size+1) rfl (by go_simp;try rfl) (by go_simp;try rfl) (by go_simp;try rfl) (by go_simp;try rfl)) rfl ?_
 refine ⟨rfl,?_,?_⟩
 ·repeat (first | exact HF.out | exact Box.set HF.out 0 _ | refine bx_alloc ?_ _ | refine bx_ne ?_ _ (by assumption) _ | refine Box.set (cs:=[_]) ?_ 0 _)
 ·repeat (first | exact grownR_refl _ _ | refine gr_alloc ?_ _ | refine gr_set (p:=⟨bf,0,none⟩) ?_ _ | refine gr_new ?_ _ (by simp <;> omega) _)
theorem wgh_3v0 (p s t:Int) (v:Bool) (va:Int) (a:Bool) (bv bf:Nat) (w:World) (hv:Box w bv 3 [.int .i64 va]) (hf:Box w bf 4 [.bool a]) (hz:p=0∧s=0∧t=0) (h1:va=3) (h2:v=true) :
  Calls Tryz.prog 112 #[.agg #[.int .i64 p,.int .i64 s,.int .i64 t,.bool v],.pointer (some ⟨bv,0,none⟩),.pointer (some ⟨bf,0,none⟩)] w (fun e w'=>e=.returned (.agg #[.int .i64 0,.int .i64 0,.int .i64 0,.int .i64 0])∧Box w' bf 4 [.bool true]∧w.grownBy w' (some bf)):=by
 have cv:=hv.cell (i:=0) rfl
 have cf:=hf.cell (i:=0) rfl
 have ff:=hf.free 0
 have lv:=hv.lt
 have lf:=hf.lt
 have lv1:bv < w.heap.size+1:=by omega
 have lv2:bv < w.heap.size+1+1:=by omega
 have lf1:bf < w.heap.size+1:=by omega
 have lf2:bf < w.heap.size+1+1:=by omega
 have m1:¬bf=w.heap.size:=by omega
 have m2:¬bf=w.heap.size+1:=by omega
 have m3:¬bf=w.heap.size+1+1:=by omega
 have l1:¬w.heap.size=bf:=by omega
 have l2:¬w.heap.size+1=bf:=by omega
 have l3:¬w.heap.size+1+1=bf:=by omega
 obtain ⟨i0,hi,hz0,hz1,hz2⟩:=info_parts info_int
 have q4:=fun W x y z f x' y' z' f'=>run_equalIn_array4 (P:=Tryz.prog) W 9998 113 3 .i64 i0 Tryz.underlying113 Tryz.underlying3 hi hz1 x y z f x' y' z' f'
 have x1:¬bv=bf:=by
  intro e
  subst e
  rw [cv] at cf
  cases cf
 have x2:¬bf=bv:=fun e=>x1 e.symm
 have HF:=Lib.hid hf
 clear hi hz0 hz1 hz2 hv hf
 subst h1
 subst h2
 obtain ⟨rfl,rfl,rfl⟩:=hz
 go_enter Tryz.func112,Tryz.ntmps112
 go_wp2_with fail
 (try simp only [Exit.inBlock,Exit.then]);refine bodyPost_ret (results_w4 rfl _ _ (b:=w.heap.size+1) rfl (by go_simp;try rfl) (by go_simp;try rfl) (by go_simp;try rfl) (by go_simp;try rfl)) rfl ?_
 refine ⟨rfl,?_,?_⟩
 ·repeat (first | exact HF.out | exact Box.set HF.out 0 _ | refine bx_alloc ?_ _ | refine bx_ne ?_ _ (by assumption) _ | refine Box.set (cs:=[_]) ?_ 0 _)
 ·repeat (first | exact grownR_refl _ _ | refine gr_alloc ?_ _ | refine gr_set (p:=⟨bf,0,none⟩) ?_ _ | refine gr_new ?_ _ (by simp <;> omega) _)
theorem wgh_3v1 (p s t:Int) (v:Bool) (va:Int) (a:Bool) (bv bf:Nat) (w:World) (hv:Box w bv 3 [.int .i64 va]) (hf:Box w bf 4 [.bool a]) (hz:¬(p=0∧s=0∧t=0)) (h1:va=3) (h2:v=true) :
  Calls Tryz.prog 112 #[.agg #[.int .i64 p,.int .i64 s,.int .i64 t,.bool v],.pointer (some ⟨bv,0,none⟩),.pointer (some ⟨bf,0,none⟩)] w (fun e w'=>e=.returned (.agg #[.int .i64 0,.int .i64 0,.int .i64 0,.int .i64 p])∧Box w' bf 4 [.bool true]∧w.grownBy w' (some bf)):=by
 have cv:=hv.cell (i:=0) rfl
 have cf:=hf.cell (i:=0) rfl
 have ff:=hf.free 0
 have lv:=hv.lt
 have lf:=hf.lt
 have lv1:bv < w.heap.size+1:=by omega
 have lv2:bv < w.heap.size+1+1:=by omega
 have lf1:bf < w.heap.size+1:=by omega
 have lf2:bf < w.heap.size+1+1:=by omega
 have m1:¬bf=w.heap.size:=by omega
 have m2:¬bf=w.heap.size+1:=by omega
 have m3:¬bf=w.heap.size+1+1:=by omega
 have l1:¬w.heap.size=bf:=by omega
 have l2:¬w.heap.size+1=bf:=by omega
 have l3:¬w.heap.size+1+1=bf:=by omega
 obtain ⟨i0,hi,hz0,hz1,hz2⟩:=info_parts info_int
 have q4:=fun W x y z f x' y' z' f'=>run_equalIn_array4 (P:=Tryz.prog) W 9998 113 3 .i64 i0 Tryz.underlying113 Tryz.underlying3 hi hz1 x y z f x' y' z' f'
 have x1:¬bv=bf:=by
  intro e
  subst e
  rw [cv] at cf
  cases cf
 have x2:¬bf=bv:=fun e=>x1 e.symm
 have HF:=Lib.hid hf
 clear hi hz0 hz1 hz2 hv hf
 subst h1
 subst h2
 have qz:(p==0&&s==0&&t==0&&true)=false:=by cases h:(p==0&&s==0&&t==0&&true) with | false=>rfl | true=>(simp at h;exact absurd ⟨h.1.1,h.1.2,h.2⟩ hz)
 have qz2:(p==0&&s==0&&t==0)=false:=by cases h:(p==0&&s==0&&t==0) with | false=>rfl | true=>(simp at h;exact absurd ⟨h.1.1,h.1.2,h.2⟩ hz)
 clear hz
 go_enter Tryz.func112,Tryz.ntmps112
 go_wp2_with fail
 (try simp only [Exit.inBlock,Exit.then]);refine bodyPost_ret (results_w4 rfl _ _ (b:=w.heap.size+1) rfl (by go_simp;try rfl) (by go_simp;try rfl) (by go_simp;try rfl) (by go_simp;try rfl)) rfl ?_
 refine ⟨rfl,?_,?_⟩
 ·repeat (first | exact HF.out | exact Box.set HF.out 0 _ | refine bx_alloc ?_ _ | refine bx_ne ?_ _ (by assumption) _ | refine Box.set (cs:=[_]) ?_ 0 _)
 ·repeat (first | exact grownR_refl _ _ | refine gr_alloc ?_ _ | refine gr_set (p:=⟨bf,0,none⟩) ?_ _ | refine gr_new ?_ _ (by simp <;> omega) _)
theorem wgh_3p (p s t:Int) (v:Bool) (va:Int) (a:Bool) (bv bf:Nat) (w:World) (hv:Box w bv 3 [.int .i64 va]) (hf:Box w bf 4 [.bool a]) (hz:¬(p=0∧s=0∧t=0)) (h1:va=3) (h2:v=false) (h3:¬p=0) :
  Calls Tryz.prog 112 #[.agg #[.int .i64 p,.int .i64 s,.int .i64 t,.bool v],.pointer (some ⟨bv,0,none⟩),.pointer (some ⟨bf,0,none⟩)] w (fun e w'=>e=.returned (.agg #[.int .i64 p,.int .i64 s,.int .i64 t,.int .i64 65535])∧Box w' bf 4 [.bool false]∧w.grownBy w' (some bf)):=by
 have cv:=hv.cell (i:=0) rfl
 have cf:=hf.cell (i:=0) rfl
 have ff:=hf.free 0
 have lv:=hv.lt
 have lf:=hf.lt
 have lv1:bv < w.heap.size+1:=by omega
 have lv2:bv < w.heap.size+1+1:=by omega
 have lf1:bf < w.heap.size+1:=by omega
 have lf2:bf < w.heap.size+1+1:=by omega
 have m1:¬bf=w.heap.size:=by omega
 have m2:¬bf=w.heap.size+1:=by omega
 have m3:¬bf=w.heap.size+1+1:=by omega
 have l1:¬w.heap.size=bf:=by omega
 have l2:¬w.heap.size+1=bf:=by omega
 have l3:¬w.heap.size+1+1=bf:=by omega
 obtain ⟨i0,hi,hz0,hz1,hz2⟩:=info_parts info_int
 have q4:=fun W x y z f x' y' z' f'=>run_equalIn_array4 (P:=Tryz.prog) W 9998 113 3 .i64 i0 Tryz.underlying113 Tryz.underlying3 hi hz1 x y z f x' y' z' f'
 have x1:¬bv=bf:=by
  intro e
  subst e
  rw [cv] at cf
  cases cf
 have x2:¬bf=bv:=fun e=>x1 e.symm
 have HF:=Lib.hid hf
 clear hi hz0 hz1 hz2 hv hf
 subst h1
 subst h2
 have qp:(p != 0)=true:=by simpa using h3
 clear h3
 have qz:(p==0&&s==0&&t==0&&true)=false:=by cases h:(p==0&&s==0&&t==0&&true) with | false=>rfl | true=>(simp at h;exact absurd ⟨h.1.1,h.1.2,h.2⟩ hz)
 have qz2:(p==0&&s==0&&t==0)=false:=by cases h:(p==0&&s==0&&t==0) with | false=>rfl | true=>(simp at h;exact absurd ⟨h.1.1,h.1.2,h.2⟩ hz)
 clear hz
 go_enter Tryz.func112,Tryz.ntmps112
 go_wp2_with fail
 (try simp only [Exit.inBlock,Exit.then]);refine bodyPost_ret (results_w4 rfl _ _ (b:=w.heap.size+1) rfl (by go_simp;try rfl) (by go_simp;try rfl) (by go_simp;try rfl) (by go_simp;try rfl)) rfl ?_
 refine ⟨rfl,?_,?_⟩
 ·repeat (first | exact HF.out | exact Box.set HF.out 0 _ | refine bx_alloc ?_ _ | refine bx_ne ?_ _ (by assumption) _ | refine Box.set (cs:=[_]) ?_ 0 _)
 ·repeat (first | exact grownR_refl _ _ | refine gr_alloc ?_ _ | refine gr_set (p:=⟨bf,0,none⟩) ?_ _ | refine gr_new ?_ _ (by simp <;> omega) _)
theorem wgh_3t0 (p s t:Int) (v:Bool) (va:Int) (a:Bool) (bv bf:Nat) (w:World) (hv:Box w bv 3 [.int .i64 va]) (hf:Box w bf 4 [.bool a]) (hz:p=0∧s=0∧t=0) (h1:va=3) (h2:v=false) (h4:a=true) :
  Calls Tryz.prog 112 #[.agg #[.int .i64 p,.int .i64 s,.int .i64 t,.bool v],.pointer (some ⟨bv,0,none⟩),.pointer (some ⟨bf,0,none⟩)] w (fun e w'=>e=.returned (.agg #[.int .i64 0,.int .i64 0,.int .i64 0,.int .i64 0])∧Box w' bf 4 [.bool true]∧w.grownBy w' (some bf)):=by
 have cv:=hv.cell (i:=0) rfl
 have cf:=hf.cell (i:=0) rfl
 have ff:=hf.free 0
 have lv:=hv.lt
 have lf:=hf.lt
 have lv1:bv < w.heap.size+1:=by omega
 have lv2:bv < w.heap.size+1+1:=by omega
 have lf1:bf < w.heap.size+1:=by omega
 have lf2:bf < w.heap.size+1+1:=by omega
 have m1:¬bf=w.heap.size:=by omega
 have m2:¬bf=w.heap.size+1:=by omega
 have m3:¬bf=w.heap.size+1+1:=by omega
 have l1:¬w.heap.size=bf:=by omega
 have l2:¬w.heap.size+1=bf:=by omega
 have l3:¬w.heap.size+1+1=bf:=by omega
 obtain ⟨i0,hi,hz0,hz1,hz2⟩:=info_parts info_int
 have q4:=fun W x y z f x' y' z' f'=>run_equalIn_array4 (P:=Tryz.prog) W 9998 113 3 .i64 i0 Tryz.underlying113 Tryz.underlying3 hi hz1 x y z f x' y' z' f'
 have x1:¬bv=bf:=by
  intro e
  subst e
  rw [cv] at cf
  cases cf
 have x2:¬bf=bv:=fun e=>x1 e.symm
 have HF:=Lib.hid hf
 clear hi hz0 hz1 hz2 hv hf
 subst h1
 subst h2
 subst h4
 obtain ⟨rfl,rfl,rfl⟩:=hz
 go_enter Tryz.func112,Tryz.ntmps112
 go_wp2_with fail
 (try simp only [Exit.inBlock,Exit.then]);refine bodyPost_ret (results_w4 rfl _ _ (b:=w.heap.size+1) rfl (by go_simp;try rfl) (by go_simp;try rfl) (by go_simp;try rfl) (by go_simp;try rfl)) rfl ?_
 refine ⟨rfl,?_,?_⟩
 ·repeat (first | exact HF.out | exact Box.set HF.out 0 _ | refine bx_alloc ?_ _ | refine bx_ne ?_ _ (by assumption) _ | refine Box.set (cs:=[_]) ?_ 0 _)
 ·repeat (first | exact grownR_refl _ _ | refine gr_alloc ?_ _ | refine gr_set (p:=⟨bf,0,none⟩) ?_ _ | refine gr_new ?_ _ (by simp <;> omega) _)
theorem wgh_3t1 (p s t:Int) (v:Bool) (va:Int) (a:Bool) (bv bf:Nat) (w:World) (hv:Box w bv 3 [.int .i64 va]) (hf:Box w bf 4 [.bool a]) (hz:¬(s=0∧t=0)) (h1:va=3) (h2:v=false) (h3:p=0) (h4:a=true) :
  Calls Tryz.prog 112 #[.agg #[.int .i64 p,.int .i64 s,.int .i64 t,.bool v],.pointer (some ⟨bv,0,none⟩),.pointer (some ⟨bf,0,none⟩)] w (fun e w'=>e=.returned (.agg #[.int .i64 0,.int .i64 0,.int .i64 0,.int .i64 0])∧Box w' bf 4 [.bool true]∧w.grownBy w' (some bf)):=by
 have cv:=hv.cell (i:=0) rfl
 have cf:=hf.cell (i:=0) rfl
 have ff:=hf.free 0
 have lv:=hv.lt
 have lf:=hf.lt
 have lv1:bv < w.heap.size+1:=by omega
 have lv2:bv < w.heap.size+1+1:=by omega
 have lf1:bf < w.heap.size+1:=by omega
 have lf2:bf < w.heap.size+1+1:=by omega
 have m1:¬bf=w.heap.size:=by omega
 have m2:¬bf=w.heap.size+1:=by omega
 have m3:¬bf=w.heap.size+1+1:=by omega
 have l1:¬w.heap.size=bf:=by omega
 have l2:¬w.heap.size+1=bf:=by omega
 have l3:¬w.heap.size+1+1=bf:=by omega
 obtain ⟨i0,hi,hz0,hz1,hz2⟩:=info_parts info_int
 have q4:=fun W x y z f x' y' z' f'=>run_equalIn_array4 (P:=Tryz.prog) W 9998 113 3 .i64 i0 Tryz.underlying113 Tryz.underlying3 hi hz1 x y z f x' y' z' f'
 have x1:¬bv=bf:=by
  intro e
  subst e
  rw [cv] at cf
  cases cf
 have x2:¬bf=bv:=fun e=>x1 e.symm
 have HF:=Lib.hid hf
 clear hi hz0 hz1 hz2 hv hf
 subst h1
 subst h2
 subst h3
 subst h4
 have qz:(s==0&&t==0&&true)=false:=by cases h:(s==0&&t==0&&true) with | false=>rfl | true=>(simp at h;exact absurd ⟨h.1,h.2⟩ hz)
 have qz2:(s==0&&t==0)=false:=by cases h:(s==0&&t==0) with | false=>rfl | true=>(simp at h;exact absurd ⟨h.1,h.2⟩ hz)
 clear hz
 go_enter Tryz.func112,Tryz.ntmps112
 go_wp2_with fail
 (try simp only [Exit.inBlock,Exit.then]);refine bodyPost_ret (results_w4 rfl _ _ (b:=w.heap.size+1) rfl (by go_simp;try rfl) (by go_simp;try rfl) (by go_simp;try rfl) (by go_simp;try rfl)) rfl ?_
 refine ⟨rfl,?_,?_⟩
 ·repeat (first | exact HF.out | exact Box.set HF.out 0 _ | refine bx_alloc ?_ _ | refine bx_ne ?_ _ (by assumption) _ | refine Box.set (cs:=[_]) ?_ 0 _)
 ·repeat (first | exact grownR_refl _ _ | refine gr_alloc ?_ _ | refine gr_set (p:=⟨bf,0,none⟩) ?_ _ | refine gr_new ?_ _ (by simp <;> omega) _)
theorem wgh_3f0 (p s t:Int) (v:Bool) (va:Int) (a:Bool) (bv bf:Nat) (w:World) (hv:Box w bv 3 [.int .i64 va]) (hf:Box w bf 4 [.bool a]) (hz:p=0∧s=0∧t=0) (h1:va=3) (h2:v=false) (h4:a=false) :
  Calls Tryz.prog 112 #[.agg #[.int .i64 p,.int .i64 s,.int .i64 t,.bool v],.pointer (some ⟨bv,0,none⟩),.pointer (some ⟨bf,0,none⟩)] w (fun e w'=>e=.returned (.agg #[.int .i64 0,.int .i64 0,.int .i64 0,.int .i64 0])∧Box w' bf 4 [.bool false]∧w.grownBy w' (some bf)):=by
 have cv:=hv.cell (i:=0) rfl
 have cf:=hf.cell (i:=0) rfl
 have ff:=hf.free 0
 have lv:=hv.lt
 have lf:=hf.lt
 have lv1:bv < w.heap.size+1:=by omega
 have lv2:bv < w.heap.size+1+1:=by omega
 have lf1:bf < w.heap.size+1:=by omega
 have lf2:bf < w.heap.size+1+1:=by omega
 have m1:¬bf=w.heap.size:=by omega
 have m2:¬bf=w.heap.size+1:=by omega
 have m3:¬bf=w.heap.size+1+1:=by omega
 have l1:¬w.heap.size=bf:=by omega
 have l2:¬w.heap.size+1=bf:=by omega
 have l3:¬w.heap.size+1+1=bf:=by omega
 obtain ⟨i0,hi,hz0,hz1,hz2⟩:=info_parts info_int
 have q4:=fun W x y z f x' y' z' f'=>run_equalIn_array4 (P:=Tryz.prog) W 9998 113 3 .i64 i0 Tryz.underlying113 Tryz.underlying3 hi hz1 x y z f x' y' z' f'
 have x1:¬bv=bf:=by
  intro e
  subst e
  rw [cv] at cf
  cases cf
 have x2:¬bf=bv:=fun e=>x1 e.symm
 have HF:=Lib.hid hf
 clear hi hz0 hz1 hz2 hv hf
 subst h1
 subst h2
 subst h4
 obtain ⟨rfl,rfl,rfl⟩:=hz
 go_enter Tryz.func112,Tryz.ntmps112
 go_wp2_with fail
 (try simp only [Exit.inBlock,Exit.then]);refine bodyPost_ret (results_w4 rfl _ _ (b:=w.heap.size+1) rfl (by go_simp;try rfl) (by go_simp;try rfl) (by go_simp;try rfl) (by go_simp;try rfl)) rfl ?_
 refine ⟨rfl,?_,?_⟩
 ·repeat (first | exact HF.out | exact Box.set HF.out 0 _ | refine bx_alloc ?_ _ | refine bx_ne ?_ _ (by assumption) _ | refine Box.set (cs:=[_]) ?_ 0 _)
 ·repeat (first | exact grownR_refl _ _ | refine gr_alloc ?_ _ | refine gr_set (p:=⟨bf,0,none⟩) ?_ _ | refine gr_new ?_ _ (by simp <;> omega) _)
theorem wgh_3f1 (p s t:Int) (v:Bool) (va:Int) (a:Bool) (bv bf:Nat) (w:World) (hv:Box w bv 3 [.int .i64 va]) (hf:Box w bf 4 [.bool a]) (hz:¬(s=0∧t=0)) (h1:va=3) (h2:v=false) (h3:p=0) (h4:a=false) :
  Calls Tryz.prog 112 #[.agg #[.int .i64 p,.int .i64 s,.int .i64 t,.bool v],.pointer (some ⟨bv,0,none⟩),.pointer (some ⟨bf,0,none⟩)] w (fun e w'=>e=.returned (.agg #[.int .i64 0,.int .i64 s,.int .i64 t,.int .i64 65535])∧Box w' bf 4 [.bool false]∧w.grownBy w' (some bf)):=by
 have cv:=hv.cell (i:=0) rfl
 have cf:=hf.cell (i:=0) rfl
 have ff:=hf.free 0
 have lv:=hv.lt
 have lf:=hf.lt
 have lv1:bv < w.heap.size+1:=by omega
 have lv2:bv < w.heap.size+1+1:=by omega
 have lf1:bf < w.heap.size+1:=by omega
 have lf2:bf < w.heap.size+1+1:=by omega
 have m1:¬bf=w.heap.size:=by omega
 have m2:¬bf=w.heap.size+1:=by omega
 have m3:¬bf=w.heap.size+1+1:=by omega
 have l1:¬w.heap.size=bf:=by omega
 have l2:¬w.heap.size+1=bf:=by omega
 have l3:¬w.heap.size+1+1=bf:=by omega
 obtain ⟨i0,hi,hz0,hz1,hz2⟩:=info_parts info_int
 have q4:=fun W x y z f x' y' z' f'=>run_equalIn_array4 (P:=Tryz.prog) W 9998 113 3 .i64 i0 Tryz.underlying113 Tryz.underlying3 hi hz1 x y z f x' y' z' f'
 have x1:¬bv=bf:=by
  intro e
  subst e
  rw [cv] at cf
  cases cf
 have x2:¬bf=bv:=fun e=>x1 e.symm
 have HF:=Lib.hid hf
 clear hi hz0 hz1 hz2 hv hf
 subst h1
 subst h2
 subst h3
 subst h4
 have qz:(s==0&&t==0&&true)=false:=by cases h:(s==0&&t==0&&true) with | false=>rfl | true=>(simp at h;exact absurd ⟨h.1,h.2⟩ hz)
 have qz2:(s==0&&t==0)=false:=by cases h:(s==0&&t==0) with | false=>rfl | true=>(simp at h;exact absurd ⟨h.1,h.2⟩ hz)
 clear hz
 go_enter Tryz.func112,Tryz.ntmps112
 go_wp2_with fail
 (try simp only [Exit.inBlock,Exit.then]);refine bodyPost_ret (results_w4 rfl _ _ (b:=w.heap.size+1) rfl (by go_simp;try rfl) (by go_simp;try rfl) (by go_simp;try rfl) (by go_simp;try rfl)) rfl ?_
 refine ⟨rfl,?_,?_⟩
 ·repeat (first | exact HF.out | exact Box.set HF.out 0 _ | refine bx_alloc ?_ _ | refine bx_ne ?_ _ (by assumption) _ | refine Box.set (cs:=[_]) ?_ 0 _)
 ·repeat (first | exact grownR_refl _ _ | refine gr_alloc ?_ _ | refine gr_set (p:=⟨bf,0,none⟩) ?_ _ | refine gr_new ?_ _ (by simp <;> omega) _)
set_option linter.unusedSimpArgs false
theorem wtE_n {a:Bool} {x:Elt} {k:Nat}:wtE 1 a x k=if k < 3 then rawE x k else if noneE x=true then 0 else 65535:=if_pos rfl
theorem treat1_any (x:Elt) (va:Int) (a:Bool) (bv bf:Nat) (w:World) (hv:Box w bv 3 [.int .i64 va]) (hf:Box w bf 4 [.bool a]) (hva:va=1∨va=2∨va=3) :
  Calls Tryz.prog 112 #[.agg #[.int .i64 x.p,.int .i64 x.s,.int .i64 x.t,.bool x.v],.pointer (some ⟨bv,0,none⟩),.pointer (some ⟨bf,0,none⟩)] w (RetWgh va a x bf w):=by
 obtain ⟨p,s,t,v⟩:=x
 dsimp only
 have mk:∀{e:Ending} {w':World} {u0 u1 u2 u3:Int} {b:Bool},(e=.returned (.agg #[.int .i64 u0,.int .i64 u1,.int .i64 u2,.int .i64 u3])∧Box w' bf 4 [.bool b]∧w.grownBy w' (some bf))→
   wtE va (aftE a ⟨p,s,t,v⟩) ⟨p,s,t,v⟩ 0=u0→wtE va (aftE a ⟨p,s,t,v⟩) ⟨p,s,t,v⟩ 1=u1→wtE va (aftE a ⟨p,s,t,v⟩) ⟨p,s,t,v⟩ 2=u2→wtE va (aftE a ⟨p,s,t,v⟩) ⟨p,s,t,v⟩ 3=u3→(if va=1 then a else aftE a ⟨p,s,t,v⟩)=b→RetWgh va a ⟨p,s,t,v⟩ bf w e w':=by
  rintro e w' _ _ _ _ _ ⟨h1,h2,h3⟩ rfl rfl rfl rfl rfl
  exact ⟨h1,h2,h3⟩
 have cva:∀(k:Int),va=k→(va=1 ↔ k=1)∧(va=3 ↔ k=3):=fun k h=>by rw [h];exact ⟨Iff.rfl,Iff.rfl⟩
 by_cases hz:p=0∧s=0∧t=0
 ·have hn:noneE ⟨p,s,t,v⟩=true:=by simp [noneE,hz]
  have hp:=hz.1
  rcases hva with h | h | h
  ·exact (wgh_n0 p s t v va a bv bf w hv hf hz h).mono (fun e w' hh=>mk hh (by subst h;simp [wtE,rawE,hz]) (by subst h;simp [wtE,rawE,hz]) (by subst h;simp [wtE,rawE,hz]) (by subst h;simp [wtE,hn]) (if_pos h))
  ·cases h2:v with
   | true=>
    subst h2
    exact (wgh_2v0 p s t true va a bv bf w hv hf hz h rfl).mono (fun e w' hh=>mk hh (by subst h;simp [wtE,rawE,aftE,noneE,hz]) (by subst h;simp [wtE,rawE,aftE,noneE,hz]) (by subst h;simp [wtE,rawE,aftE,noneE,hz]) (by subst h;simp [wtE,rawE,aftE,noneE,hz]) (by rw [if_neg (by omega)];simp [aftE,noneE,hz]))
   | false=>
    subst h2
    cases h4:a with
    | true=>
     subst h4
     exact (wgh_2t0 p s t false va true bv bf w hv hf hz h rfl rfl).mono (fun e w' hh=>mk hh (by subst h;simp [wtE,rawE,aftE,noneE,hz]) (by subst h;simp [wtE,rawE,aftE,noneE,hz]) (by subst h;simp [wtE,rawE,aftE,noneE,hz]) (by subst h;simp [wtE,rawE,aftE,noneE,hz]) (by rw [if_neg (by omega)];simp [aftE,noneE,hz]))
    | false=>
     subst h4
     exact (wgh_2f0 p s t false va false bv bf w hv hf hz h rfl rfl).mono (fun e w' hh=>mk hh (by subst h;simp [wtE,rawE,aftE,noneE,hz]) (by subst h;simp [wtE,rawE,aftE,noneE,hz]) (by subst h;simp [wtE,rawE,aftE,noneE,hz]) (by subst h;simp [wtE,rawE,aftE,noneE,hz]) (by rw [if_neg (by omega)];simp [aftE,noneE,hz]))
  ·cases h2:v with
   | true=>
    subst h2
    exact (wgh_3v0 p s t true va a bv bf w hv hf hz h rfl).mono (fun e w' hh=>mk hh (by subst h;simp [wtE,rawE,aftE,noneE,hz]) (by subst h;simp [wtE,rawE,aftE,noneE,hz]) (by subst h;simp [wtE,rawE,aftE,noneE,hz]) (by subst h;simp [wtE,rawE,aftE,noneE,hz]) (by rw [if_neg (by omega)];simp [aftE,noneE,hz]))
   | false=>
    subst h2
    cases h4:a with
    | true=>
     subst h4
     exact (wgh_3t0 p s t false va true bv bf w hv hf hz h rfl rfl).mono (fun e w' hh=>mk hh (by subst h;simp [wtE,rawE,aftE,noneE,hz]) (by subst h;simp [wtE,rawE,aftE,noneE,hz]) (by subst h;simp [wtE,rawE,aftE,noneE,hz]) (by subst h;simp [wtE,rawE,aftE,noneE,hz]) (by rw [if_neg (by omega)];simp [aftE,noneE,hz]))
    | false=>
     subst h4
     exact (wgh_3f0 p s t false va false bv bf w hv hf hz h rfl rfl).mono (fun e w' hh=>mk hh (by subst h;simp [wtE,rawE,aftE,noneE,hz]) (by subst h;simp [wtE,rawE,aftE,noneE,hz]) (by subst h;simp [wtE,rawE,aftE,noneE,hz]) (by subst h;simp [wtE,rawE,aftE,noneE,hz]) (by rw [if_neg (by omega)];simp [aftE,noneE,hz]))
 ·have hn:noneE ⟨p,s,t,v⟩=false:=by
   cases h:noneE ⟨p,s,t,v⟩ with
   | false=>rfl
   | true=>simp [noneE] at h;exact absurd ⟨h.1.1,h.1.2,h.2⟩ hz
  rcases hva with h | h | h
  ·exact (wgh_n1 p s t v va a bv bf w hv hf hz h).mono (fun e w' hh=>mk hh (by subst h;simp [wtE,rawE]) (by subst h;simp [wtE,rawE]) (by subst h;simp [wtE,rawE]) (by subst h;simp [wtE,hn]) (if_pos h))
  ·cases h2:v with
   | true=>
    subst h2
    exact (wgh_2v1 p s t true va a bv bf w hv hf hz h rfl).mono (fun e w' hh=>mk hh (by subst h;simp [wtE,rawE,aftE,hn]) (by subst h;simp [wtE,rawE,aftE,hn]) (by subst h;simp [wtE,rawE,aftE,hn]) (by subst h;simp [wtE,rawE,aftE,hn]) (by rw [if_neg (by omega)];simp [aftE,hn]))
   | false=>
    subst h2
    by_cases h3:p=0
    ·have hz':¬(s=0∧t=0):=fun g=>hz ⟨h3,g⟩
     cases h4:a with
     | true=>
      subst h4
      exact (wgh_2t1 p s t false va true bv bf w hv hf hz' h rfl h3 rfl).mono (fun e w' hh=>mk hh (by subst h;simp [wtE,rawE,aftE,noneE,h3,hz']) (by subst h;simp [wtE,rawE,aftE,noneE,h3,hz']) (by subst h;simp [wtE,rawE,aftE,noneE,h3,hz']) (by subst h;simp [wtE,rawE,aftE,noneE,h3,hz']) (by rw [if_neg (by omega)];simp [aftE,noneE,h3,hz']))
     | false=>
      subst h4
      exact (wgh_2f1 p s t false va false bv bf w hv hf hz' h rfl h3 rfl).mono (fun e w' hh=>mk hh (by subst h;simp [wtE,rawE,aftE,noneE,h3,hz']) (by subst h;simp [wtE,rawE,aftE,noneE,h3,hz']) (by subst h;simp [wtE,rawE,aftE,noneE,h3,hz']) (by subst h;simp [wtE,rawE,aftE,noneE,h3,hz']) (by rw [if_neg (by omega)];simp [aftE,noneE,h3,hz']))
    ·exact (wgh_2p p s t false va a bv bf w hv hf hz h rfl h3).mono (fun e w' hh=>mk hh (by subst h;simp [wtE,rawE,aftE,hn,h3]) (by subst h;simp [wtE,rawE,aftE,hn,h3]) (by subst h;simp [wtE,rawE,aftE,hn,h3]) (by subst h;simp [wtE,rawE,aftE,hn,h3]) (by rw [if_neg (by omega)];simp [aftE,hn,h3]))
  ·cases h2:v with
   | true=>
    subst h2
    exact (wgh_3v1 p s t true va a bv bf w hv hf hz h rfl).mono (fun e w' hh=>mk hh (by subst h;simp [wtE,rawE,aftE,hn]) (by subst h;simp [wtE,rawE,aftE,hn]) (by subst h;simp [wtE,rawE,aftE,hn]) (by subst h;simp [wtE,rawE,aftE,hn]) (by rw [if_neg (by omega)];simp [aftE,hn]))
   | false=>
    subst h2
    by_cases h3:p=0
    ·have hz':¬(s=0∧t=0):=fun g=>hz ⟨h3,g⟩
     cases h4:a with
     | true=>
      subst h4
      exact (wgh_3t1 p s t false va true bv bf w hv hf hz' h rfl h3 rfl).mono (fun e w' hh=>mk hh (by subst h;simp [wtE,rawE,aftE,noneE,h3,hz']) (by subst h;simp [wtE,rawE,aftE,noneE,h3,hz']) (by subst h;simp [wtE,rawE,aftE,noneE,h3,hz']) (by subst h;simp [wtE,rawE,aftE,noneE,h3,hz']) (by rw [if_neg (by omega)];simp [aftE,noneE,h3,hz']))
     | false=>
      subst h4
      exact (wgh_3f1 p s t false va false bv bf w hv hf hz' h rfl h3 rfl).mono (fun e w' hh=>mk hh (by subst h;simp [wtE,rawE,aftE,noneE,h3,hz']) (by subst h;simp [wtE,rawE,aftE,noneE,h3,hz']) (by subst h;simp [wtE,rawE,aftE,noneE,h3,hz']) (by subst h;simp [wtE,rawE,aftE,noneE,h3,hz']) (by rw [if_neg (by omega)];simp [aftE,noneE,h3,hz']))
    ·exact (wgh_3p p s t false va a bv bf w hv hf hz h rfl h3).mono (fun e w' hh=>mk hh (by subst h;simp [wtE,rawE,aftE,hn,h3]) (by subst h;simp [wtE,rawE,aftE,hn,h3]) (by subst h;simp [wtE,rawE,aftE,hn,h3]) (by subst h;simp [wtE,rawE,aftE,hn,h3]) (by rw [if_neg (by omega)];simp [aftE,hn,h3]))
end Go.Proofs.YtijgbonhjcblcaaGreatDoor
