/- Texts that are merged into one file: TlAlive, LawPl, OpenR, Open, OpenMap, OpenNorm. -/
import Derived.Test.YtkhmjidaeliccaaGreatDoorA01
import Derived.Test.YtkhmjidaeliccaaGreatDoorA07
import Derived.Test.YtkhmjidaeliccaaGreatDoorA23
import Derived.Test.YtkhmjidaeliccaaGreatDoorA25
import Derived.Deep.Slices
import Derived.ProofKit
import Derived.OpenShut
import Derived.ShutString
import Derived.ChangeOld
import Derived.Test.YtkhmjidaeliccaaGreatDoorRows
import Derived.Deep.DeepHandedRow
import Derived.Lib.LaidTab
set_option maxRecDepth 100000
set_option maxHeartbeats 51200000
namespace Go.Proofs.YtkhmjidaeliccaaGreatDoor
open Go.RowKit Go.Maps Go.WideMaps Tl Pa
def smpC:Col:=⟨[⟨[97],[⟨16,32,2,false⟩]⟩,⟨[99],[⟨17,32,2,false⟩]⟩],[],100,32,2⟩
theorem smpC_sz:ColSz smpC:=by
 refine ⟨fun i hi=>?_,by simp [smpC],by simp [smpC]⟩
 have:i=0∨i=1:=by simp [smpC] at hi;omega
 rcases this with rfl | rfl <;> simp [smpC]
def RetCol (c:Col) (w:World) (e:Ending) (w':World):Prop:=∃A a B b,e=.returned (colV A c.ents.length a B c.grps.length b c)∧ColAt w' A c.ents.length B c.grps.length c∧Below w.heap.size w w'
theorem sl_set_ne {q:Nat} {cs:List Value} {W:World} (h:Sl W (some ⟨q,0,none⟩) cs) (p:Addr) (hp:p.block≠q) (v:Value):Sl (W.setCell p v) (some ⟨q,0,none⟩) cs:=
 Sl.stored h p (fun _ q' hq=>by have:=Option.some.inj (show some q=some q' from hq);omega) v
theorem sample_any (w:World):Calls Tryz.prog 33 #[] w (RetCol smpC w):=by
 have HX0:=Lib.hid (show Box (((w.alloc (.cells #[.slice none 0 0,.slice none 0 0,.int .i64 0,.int .i64 0,.int .i64 0] 32)).alloc (.cells #[.int .i64 16,.int .i64 32,.int .i64 2,.bool false] 77)).alloc (.cells #[.int .i64 17,.int .i64 32,.int .i64 2,.bool false] 77)) w.heap.size 32 [.slice none 0 0,.slice none 0 0,.int .i64 0,.int .i64 0,.int .i64 0] from ((Box.new w 32 [.slice none 0 0,.slice none 0 0,.int .i64 0,.int .i64 0,.int .i64 0] rfl).below ((Below.refl _ _).alloc (Nat.le_refl _) _) (by simp)).below ((Below.refl _ _).alloc (Nat.le_refl _) _) (by simp <;> omega))
 have HX1:=Lib.hid (show Box (((w.alloc (.cells #[.slice none 0 0,.slice none 0 0,.int .i64 0,.int .i64 0,.int .i64 0] 32)).alloc (.cells #[.int .i64 16,.int .i64 32,.int .i64 2,.bool false] 77)).alloc (.cells #[.int .i64 17,.int .i64 32,.int .i64 2,.bool false] 77)) (w.heap.size+1) 77 [.int .i64 16,.int .i64 32,.int .i64 2,.bool false] from (Box.new (w.alloc (.cells #[.slice none 0 0,.slice none 0 0,.int .i64 0,.int .i64 0,.int .i64 0] 32)) 77 [.int .i64 16,.int .i64 32,.int .i64 2,.bool false] (by simp)).below ((Below.refl _ _).alloc (Nat.le_refl _) _) (by simp))
 have HX2:=Lib.hid (show Box (((w.alloc (.cells #[.slice none 0 0,.slice none 0 0,.int .i64 0,.int .i64 0,.int .i64 0] 32)).alloc (.cells #[.int .i64 16,.int .i64 32,.int .i64 2,.bool false] 77)).alloc (.cells #[.int .i64 17,.int .i64 32,.int .i64 2,.bool false] 77)) (w.heap.size+2) 77 [.int .i64 17,.int .i64 32,.int .i64 2,.bool false] from Box.new ((w.alloc (.cells #[.slice none 0 0,.slice none 0 0,.int .i64 0,.int .i64 0,.int .i64 0] 32)).alloc (.cells #[.int .i64 16,.int .i64 32,.int .i64 2,.bool false] 77)) 77 [.int .i64 17,.int .i64 32,.int .i64 2,.bool false] (by simp))
 have HB:=Lib.hid (show Below w.heap.size w (((w.alloc (.cells #[.slice none 0 0,.slice none 0 0,.int .i64 0,.int .i64 0,.int .i64 0] 32)).alloc (.cells #[.int .i64 16,.int .i64 32,.int .i64 2,.bool false] 77)).alloc (.cells #[.int .i64 17,.int .i64 32,.int .i64 2,.bool false] 77)) from (((Below.refl _ _).alloc (Nat.le_refl _) _).alloc (by simp) _).alloc (by simp <;> omega) _)
 have WE:=Lib.hid (show ∃V,(((w.alloc (.cells #[.slice none 0 0,.slice none 0 0,.int .i64 0,.int .i64 0,.int .i64 0] 32)).alloc (.cells #[.int .i64 16,.int .i64 32,.int .i64 2,.bool false] 77)).alloc (.cells #[.int .i64 17,.int .i64 32,.int .i64 2,.bool false] 77))=V from ⟨_,rfl⟩)
 go_enter Tryz.func33,Tryz.ntmps33
 go_upto_region 2 with (fail)
 obtain ⟨V,hV⟩:=WE.out
 rw [hV] at HX0 HX1 HX2 HB ⊢
 clear hV
 have l0:=HX0.out.lt
 have l1:=HX1.out.lt
 have l2:=HX2.out.lt
 have a0:=HX1.out.cell (i:=0) rfl
 have a1:=HX1.out.cell (i:=1) rfl
 have a2:=HX1.out.cell (i:=2) rfl
 have a3:=HX1.out.cell (i:=3) rfl
 have b0:=HX2.out.cell (i:=0) rfl
 have b1:=HX2.out.cell (i:=1) rfl
 have b2:=HX2.out.cell (i:=2) rfl
 have b3:=HX2.out.cell (i:=3) rfl
 go_step
 go_step
 go_step
 go_step
 go_step
 go_step
 go_step
 go_step
 go_step
 go_step
 go_step
 go_step
 go_step
 go_step
 go_step
 go_step
 go_step
 go_step
 go_step
 go_step
 go_step
 go_step
 go_step
 go_step
 go_step
 go_step
 go_step
 go_step
 go_step
 go_step
 go_step
 go_step
 clear a0 a1 a2 a3 b0 b1 b2 b3
 have aL:∀(W:World) (o:Obj),Below W.heap.size W (W.alloc o):=fun W o=>(Below.refl _ _).alloc (Nat.le_refl _) _
 have r1:Sl (V.alloc (.cells #[.int .i64 97] 3)) (some ⟨V.heap.size,0,none⟩) [.int .i64 97]:=Sl_new V [.int .i64 97] 3 rfl
 have r2:Sl ((V.alloc (.cells #[.int .i64 97] 3)).alloc (.cells #[.int .i64 16,.int .i64 32,.int .i64 2,.bool false] 77)) (some ⟨V.heap.size+1,0,none⟩) [.int .i64 16,.int .i64 32,.int .i64 2,.bool false]:=Sl_new (V.alloc (.cells #[.int .i64 97] 3)) [.int .i64 16,.int .i64 32,.int .i64 2,.bool false] 77 (by simp)
 have r3:Sl (((V.alloc (.cells #[.int .i64 97] 3)).alloc (.cells #[.int .i64 16,.int .i64 32,.int .i64 2,.bool false] 77)).alloc (.cells #[.int .i64 99] 3)) (some ⟨V.heap.size+1+1,0,none⟩) [.int .i64 99]:=Sl_new ((V.alloc (.cells #[.int .i64 97] 3)).alloc (.cells #[.int .i64 16,.int .i64 32,.int .i64 2,.bool false] 77)) [.int .i64 99] 3 (by simp)
 have r4:Sl ((((V.alloc (.cells #[.int .i64 97] 3)).alloc (.cells #[.int .i64 16,.int .i64 32,.int .i64 2,.bool false] 77)).alloc (.cells #[.int .i64 99] 3)).alloc (.cells #[.int .i64 17,.int .i64 32,.int .i64 2,.bool false] 77)) (some ⟨V.heap.size+1+1+1,0,none⟩) [.int .i64 17,.int .i64 32,.int .i64 2,.bool false]:=Sl_new (((V.alloc (.cells #[.int .i64 97] 3)).alloc (.cells #[.int .i64 16,.int .i64 32,.int .i64 2,.bool false] 77)).alloc (.cells #[.int .i64 99] 3)) [.int .i64 17,.int .i64 32,.int .i64 2,.bool false] 77 (by simp)
 have r5:Sl (((((V.alloc (.cells #[.int .i64 97] 3)).alloc (.cells #[.int .i64 16,.int .i64 32,.int .i64 2,.bool false] 77)).alloc (.cells #[.int .i64 99] 3)).alloc (.cells #[.int .i64 17,.int .i64 32,.int .i64 2,.bool false] 77)).alloc (.cells #[.slice (some ⟨V.heap.size,0,none⟩) 1 1,.slice (some ⟨V.heap.size+1,0,none⟩) 1 1,.slice (some ⟨V.heap.size+1+1,0,none⟩) 1 1,.slice (some ⟨V.heap.size+1+1+1,0,none⟩) 1 1] 75)) (some ⟨V.heap.size+1+1+1+1,0,none⟩) [.slice (some ⟨V.heap.size,0,none⟩) 1 1,.slice (some ⟨V.heap.size+1,0,none⟩) 1 1,.slice (some ⟨V.heap.size+1+1,0,none⟩) 1 1,.slice (some ⟨V.heap.size+1+1+1,0,none⟩) 1 1]:=Sl_new ((((V.alloc (.cells #[.int .i64 97] 3)).alloc (.cells #[.int .i64 16,.int .i64 32,.int .i64 2,.bool false] 77)).alloc (.cells #[.int .i64 99] 3)).alloc (.cells #[.int .i64 17,.int .i64 32,.int .i64 2,.bool false] 77)) [.slice (some ⟨V.heap.size,0,none⟩) 1 1,.slice (some ⟨V.heap.size+1,0,none⟩) 1 1,.slice (some ⟨V.heap.size+1+1,0,none⟩) 1 1,.slice (some ⟨V.heap.size+1+1+1,0,none⟩) 1 1] 75 (by simp)
 have b5:Below V.heap.size V (((((V.alloc (.cells #[.int .i64 97] 3)).alloc (.cells #[.int .i64 16,.int .i64 32,.int .i64 2,.bool false] 77)).alloc (.cells #[.int .i64 99] 3)).alloc (.cells #[.int .i64 17,.int .i64 32,.int .i64 2,.bool false] 77)).alloc (.cells #[.slice (some ⟨V.heap.size,0,none⟩) 1 1,.slice (some ⟨V.heap.size+1,0,none⟩) 1 1,.slice (some ⟨V.heap.size+1+1,0,none⟩) 1 1,.slice (some ⟨V.heap.size+1+1+1,0,none⟩) 1 1] 75)):=(((((Below.refl _ _).alloc (Nat.le_refl _) _).alloc (by simp) _).alloc (by simp <;> omega) _).alloc (by simp <;> omega) _).alloc (by simp <;> omega) _
 have q1:=(((r1.below (aL _ _)).below (aL _ _)).below (aL _ _)).below (aL ((((V.alloc (.cells #[.int .i64 97] 3)).alloc (.cells #[.int .i64 16,.int .i64 32,.int .i64 2,.bool false] 77)).alloc (.cells #[.int .i64 99] 3)).alloc (.cells #[.int .i64 17,.int .i64 32,.int .i64 2,.bool false] 77)) (.cells #[.slice (some ⟨V.heap.size,0,none⟩) 1 1,.slice (some ⟨V.heap.size+1,0,none⟩) 1 1,.slice (some ⟨V.heap.size+1+1,0,none⟩) 1 1,.slice (some ⟨V.heap.size+1+1+1,0,none⟩) 1 1] 75))
 have q2:=((r2.below (aL _ _)).below (aL _ _)).below (aL ((((V.alloc (.cells #[.int .i64 97] 3)).alloc (.cells #[.int .i64 16,.int .i64 32,.int .i64 2,.bool false] 77)).alloc (.cells #[.int .i64 99] 3)).alloc (.cells #[.int .i64 17,.int .i64 32,.int .i64 2,.bool false] 77)) (.cells #[.slice (some ⟨V.heap.size,0,none⟩) 1 1,.slice (some ⟨V.heap.size+1,0,none⟩) 1 1,.slice (some ⟨V.heap.size+1+1,0,none⟩) 1 1,.slice (some ⟨V.heap.size+1+1+1,0,none⟩) 1 1] 75))
 have q3:=(r3.below (aL _ _)).below (aL ((((V.alloc (.cells #[.int .i64 97] 3)).alloc (.cells #[.int .i64 16,.int .i64 32,.int .i64 2,.bool false] 77)).alloc (.cells #[.int .i64 99] 3)).alloc (.cells #[.int .i64 17,.int .i64 32,.int .i64 2,.bool false] 77)) (.cells #[.slice (some ⟨V.heap.size,0,none⟩) 1 1,.slice (some ⟨V.heap.size+1,0,none⟩) 1 1,.slice (some ⟨V.heap.size+1+1,0,none⟩) 1 1,.slice (some ⟨V.heap.size+1+1+1,0,none⟩) 1 1] 75))
 have q4:=r4.below (aL ((((V.alloc (.cells #[.int .i64 97] 3)).alloc (.cells #[.int .i64 16,.int .i64 32,.int .i64 2,.bool false] 77)).alloc (.cells #[.int .i64 99] 3)).alloc (.cells #[.int .i64 17,.int .i64 32,.int .i64 2,.bool false] 77)) (.cells #[.slice (some ⟨V.heap.size,0,none⟩) 1 1,.slice (some ⟨V.heap.size+1,0,none⟩) 1 1,.slice (some ⟨V.heap.size+1+1,0,none⟩) 1 1,.slice (some ⟨V.heap.size+1+1+1,0,none⟩) 1 1] 75))
 clear r1 r2 r3 r4
 obtain ⟨U,hU⟩:∃U,(((((V.alloc (.cells #[.int .i64 97] 3)).alloc (.cells #[.int .i64 16,.int .i64 32,.int .i64 2,.bool false] 77)).alloc (.cells #[.int .i64 99] 3)).alloc (.cells #[.int .i64 17,.int .i64 32,.int .i64 2,.bool false] 77)).alloc (.cells #[.slice (some ⟨V.heap.size,0,none⟩) 1 1,.slice (some ⟨V.heap.size+1,0,none⟩) 1 1,.slice (some ⟨V.heap.size+1+1,0,none⟩) 1 1,.slice (some ⟨V.heap.size+1+1+1,0,none⟩) 1 1] 75))=U:=⟨_,rfl⟩
 rw [hU] at q1 q2 q3 q4 r5 b5 ⊢
 clear hU aL
 have X0:=HX0.out.below b5 l0
 have c0:=X0.cell (i:=0) rfl
 have c1:=X0.cell (i:=1) rfl
 have c2:=X0.cell (i:=2) rfl
 have c3:=X0.cell (i:=3) rfl
 have c4:=X0.cell (i:=4) rfl
 have f0:=X0.free 0
 have f1:=X0.free 1
 have f2:=X0.free 2
 have f3:=X0.free 3
 have f4:=X0.free 4
 have ZF:=(((((X0.set 0 (.slice (some ⟨V.heap.size+1+1+1+1,0,none⟩) 2 2)).set 1 (.slice none 0 0)).set 2 (.int .i64 100)).set 3 (.int .i64 32)).set 4 (.int .i64 2))
 have BF:Below w.heap.size w (((((U.setCell ⟨w.heap.size,0,none⟩ (.slice (some ⟨V.heap.size+1+1+1+1,0,none⟩) 2 2)).setCell ⟨w.heap.size,1,none⟩ (.slice none 0 0)).setCell ⟨w.heap.size,2,none⟩ (.int .i64 100)).setCell ⟨w.heap.size,3,none⟩ (.int .i64 32)).setCell ⟨w.heap.size,4,none⟩ (.int .i64 2)):=((((((HB.out.trans (b5.mono HB.out.size)).setCell (p:=⟨w.heap.size,0,none⟩) (Nat.le_refl _) (.slice (some ⟨V.heap.size+1+1+1+1,0,none⟩) 2 2)).setCell (p:=⟨w.heap.size,1,none⟩) (Nat.le_refl _) (.slice none 0 0)).setCell (p:=⟨w.heap.size,2,none⟩) (Nat.le_refl _) (.int .i64 100)).setCell (p:=⟨w.heap.size,3,none⟩) (Nat.le_refl _) (.int .i64 32)).setCell (p:=⟨w.heap.size,4,none⟩) (Nat.le_refl _) (.int .i64 2))
 have st:∀{q:Nat} {cs:List Value},Sl U (some ⟨q,0,none⟩) cs→w.heap.size≠q→Sl (((((U.setCell ⟨w.heap.size,0,none⟩ (.slice (some ⟨V.heap.size+1+1+1+1,0,none⟩) 2 2)).setCell ⟨w.heap.size,1,none⟩ (.slice none 0 0)).setCell ⟨w.heap.size,2,none⟩ (.int .i64 100)).setCell ⟨w.heap.size,3,none⟩ (.int .i64 32)).setCell ⟨w.heap.size,4,none⟩ (.int .i64 2)) (some ⟨q,0,none⟩) cs:=fun h hq=>(sl_set_ne (sl_set_ne (sl_set_ne (sl_set_ne (sl_set_ne h ⟨w.heap.size,0,none⟩ hq _) ⟨w.heap.size,1,none⟩ hq _) ⟨w.heap.size,2,none⟩ hq _) ⟨w.heap.size,3,none⟩ hq _) ⟨w.heap.size,4,none⟩ hq _)
 have R1:=Lib.hid (st q1 (by omega))
 have R2:=Lib.hid (st q2 (by omega))
 have R3:=Lib.hid (st q3 (by omega))
 have R4:=Lib.hid (st q4 (by omega))
 have R5:=Lib.hid (st r5 (by omega))
 have HZF:=Lib.hid ZF
 have HBF:=Lib.hid BF
 have HWE:=Lib.hid (show ∃Wf,(((((U.setCell ⟨w.heap.size,0,none⟩ (.slice (some ⟨V.heap.size+1+1+1+1,0,none⟩) 2 2)).setCell ⟨w.heap.size,1,none⟩ (.slice none 0 0)).setCell ⟨w.heap.size,2,none⟩ (.int .i64 100)).setCell ⟨w.heap.size,3,none⟩ (.int .i64 32)).setCell ⟨w.heap.size,4,none⟩ (.int .i64 2))=Wf from ⟨_,rfl⟩)
 clear st q1 q2 q3 q4 r5 ZF BF X0 b5
 go_wp2_with fail
 obtain ⟨Wf,hWf⟩:=HWE.out
 rw [hWf] at R1 R2 R3 R4 R5 HZF HBF ⊢
 clear hWf
 (try simp only [Exit.inBlock,Exit.then])
 refine bodyPost_ret (results_colk (k:=0) rfl _ _ (b:=w.heap.size) rfl (HZF.out.cell (i:=0) rfl) (HZF.out.cell (i:=1) rfl) (HZF.out.cell (i:=2) rfl) (HZF.out.cell (i:=3) rfl) (HZF.out.cell (i:=4) rfl)) rfl ?_
 refine ⟨_,2,none,0,rfl,⟨⟨[(.slice (some ⟨V.heap.size,0,none⟩) 1 1,.slice (some ⟨V.heap.size+1,0,none⟩) 1 1),(.slice (some ⟨V.heap.size+1+1,0,none⟩) 1 1,.slice (some ⟨V.heap.size+1+1+1,0,none⟩) 1 1)],rfl,R5.out,fun i hi hv=>?_⟩,Sl.nil _ _,rfl,rfl,fun g hg=>by cases hg⟩,HBF.out⟩
 have hi2:i=0∨i=1:=by simp [smpC] at hi;omega
 rcases hi2 with rfl | rfl
 ·exact ⟨_,_,_,_,rfl,R1.out,R2.out⟩
 ·exact ⟨_,_,_,_,rfl,R3.out,R4.out⟩
theorem eql_fault (a b c d:Int) (w:World):(binOp .eql 47 (.agg #[.int .i64 a,.int .i64 b]) (.agg #[.int .i64 c,.int .i64 d])).run Tryz.prog w=.ok (.bool (decide ((a,b)=(c,d)))) w:=by
 have u3:=Tryz.underlying3
 have a3:=Tryz.isAgg3
 have z3:=Tryz.sizeOf3
 have u4:=Tryz.underlying40
 have a4:=Tryz.isAgg40
 have z4:=Tryz.sizeOf40
 have hS:Tryz.prog.underlying 47=some (.struct (Tryz.prog.fieldsOf 47)):=by kernel_rfl
 have hp:Tryz.prog.stoodInHeld 47=false:=by kernel_rfl
 rw [run_eql_struct,show (10000:Nat)=9999+1 from rfl,run_equalIn_agg w 9999 47 _ _ hS hp]
 simp only [Program.fieldsOf,Tryz.underlying47]
 go_simp
 by_cases h2:a=c <;> by_cases h3:b=d <;> simp [h2,h3]
theorem neq_fault (a b c d:Int) (w:World):(binOp .neq 47 (.agg #[.int .i64 a,.int .i64 b]) (.agg #[.int .i64 c,.int .i64 d])).run Tryz.prog w=.ok (.bool (!decide ((a,b)=(c,d)))) w:=by
 have u3:=Tryz.underlying3
 have a3:=Tryz.isAgg3
 have z3:=Tryz.sizeOf3
 have u4:=Tryz.underlying40
 have a4:=Tryz.isAgg40
 have z4:=Tryz.sizeOf40
 have hS:Tryz.prog.underlying 47=some (.struct (Tryz.prog.fieldsOf 47)):=by kernel_rfl
 have hp:Tryz.prog.stoodInHeld 47=false:=by kernel_rfl
 rw [run_neq_struct,show (10000:Nat)=9999+1 from rfl,run_equalIn_agg w 9999 47 _ _ hS hp]
 simp only [Program.fieldsOf,Tryz.underlying47]
 go_simp
 by_cases h2:a=c <;> by_cases h3:b=d <;> simp [h2,h3]
abbrev nil0:Nrm:=⟨[],[],[]⟩
theorem nil0_sz:NrmSz nil0:=⟨by simp,⟨by simp,fun i hi=>absurd hi (Nat.not_lt_zero _)⟩,by simp⟩
theorem al_p1:parseF ⟨#[38,32,40,48,48,54,49,41,32,60,32,40,48,48,54,50,41]⟩=([⟨[97],[98],1,false⟩],0,0):=by kernel_rfl
theorem al_p2:parseF ⟨#[38,32,40,48,48,54,49,41,32,60,32,60,32,40,48,48,54,50,41]⟩=([],3,11):=by kernel_rfl
def alC:Col:=⟨[⟨[97],[⟨16,32,2,false⟩]⟩,⟨[98],[⟨17,32,2,false⟩]⟩,⟨[99],[⟨18,32,2,false⟩]⟩],[],101,32,2⟩
theorem al_ap:applyF nil0 smpC [⟨[97],[98],1,false⟩] 0=(0,0,alC):=by kernel_rfl
theorem alive_any (w:World) (hL:Laid w):Calls Tryz.prog 12 #[] w (RetTrue w):=by
 have LD:=Lib.hid (fun W (hb:Below w.heap.size w W)=>hL.below hb)
 have P1:=Lib.hid (fun W=>parse_any ⟨#[38,32,40,48,48,54,49,41,32,60,32,40,48,48,54,50,41]⟩ W (by decide))
 have P2:=Lib.hid (fun W=>parse_any ⟨#[38,32,40,48,48,54,49,41,32,60,32,60,32,40,48,48,54,50,41]⟩ W (by decide))
 rw [al_p1] at P1
 rw [al_p2] at P2
 have PS:=Lib.hid (fun W=>sample_any W)
 have PA:=Lib.hid (fun W A a B b K k (hL:Laid W) (hC:ColAt W A 2 B 0 smpC) (hK:Tlrs W K [⟨[97],[98],1,false⟩])=>apply_any none 0 0 none 0 0 none 0 0 nil0 A 2 a B 0 b smpC K k [⟨[97],[98],1,false⟩] W (NrmAt.empty W) nil0_sz hL hC smpC_sz hK (by intro t ht;simp at ht;subst ht;refine ⟨by simp,by simp,fun z hz=>?_,fun z hz=>?_⟩ <;> simp at hz <;> subst hz <;> rfl) (by simp))
 rw [al_ap] at PA
 unfold RetParse at P1 P2
 unfold RetCol colV at PS
 unfold RetApp colV at PA
 have EQ:=eql_fault
 have NE:=neq_fault
 dsimp only [List.length_cons,List.length_nil,Nat.reduceAdd,smpC,alC] at P1 P2 PS PA
 clear hL
 go_enter Tryz.func12,Tryz.ntmps12
 go_wp2_with fail
 with_reducible refine (P1.out _).mono ?_
 rintro e Y1 ⟨K1,k1,rfl,h1,hb1⟩
 have HT1:=Lib.hid h1
 have XF:=Box.new Y1 47 [.int .i64 0,.int .i64 0] rfl
 have BA:=hb1.alloc hb1.size (.cells #[.int .i64 0,.int .i64 0] 47)
 have BB:=(Below.refl Y1.heap.size Y1).alloc (Nat.le_refl _) (.cells #[.int .i64 0,.int .i64 0] 47)
 have WE:=Lib.hid (show ∃V,Y1.alloc (.cells #[.int .i64 0,.int .i64 0] 47)=V from ⟨_,rfl⟩)
 obtain ⟨n2,hn2⟩:∃n,Y1.heap.size=n:=⟨_,rfl⟩
 clear hb1 h1 P1
 go_upto_region 2 with (fail)
 obtain ⟨Y2,hY2⟩:=WE.out
 change Box (Y1.alloc (.cells #[.int .i64 0,.int .i64 0] 47)) Y1.heap.size 47 [.int .i64 0,.int .i64 0] at XF
 rw [hY2] at XF BA BB ⊢
 clear hY2 WE
 have HX2:=Lib.hid XF
 have HB2:=Lib.hid BA
 have HT2:=Lib.hid (HT1.out.below BB)
 clear XF BA BB HT1
 rw [hn2] at HX2
 clear hn2
 go_wp2_with fail
 with_reducible refine (P2.out _).mono ?_
 rintro e Y3 ⟨K2,k2,rfl,-,hb3⟩
 have BA:=(HB2.out.trans (hb3.mono HB2.out.size)).alloc (HB2.out.trans (hb3.mono HB2.out.size)).size (.cells #[.int .i64 3,.int .i64 11] 47)
 have XF:Box (Y3.alloc (.cells #[.int .i64 3,.int .i64 11] 47)) Y3.heap.size 47 [.int .i64 3,.int .i64 11]:=Box.new Y3 47 [.int .i64 3,.int .i64 11] rfl
 have B3:Below Y2.heap.size Y2 (Y3.alloc (.cells #[.int .i64 3,.int .i64 11] 47)):=hb3.alloc hb3.size _
 have WE:=Lib.hid (show ∃V,Y3.alloc (.cells #[.int .i64 3,.int .i64 11] 47)=V from ⟨_,rfl⟩)
 obtain ⟨n4,hn4⟩:∃n,Y3.heap.size=n:=⟨_,rfl⟩
 clear hb3 P2
 go_upto_region 3 with (fail)
 obtain ⟨Y4,hY4⟩:=WE.out
 rw [hY4] at XF BA B3 ⊢
 clear hY4 WE
 have HX4:=Lib.hid XF
 have HX2a:=Lib.hid (HX2.out.below B3 HX2.out.lt)
 have HT3:=Lib.hid (HT2.out.below B3)
 have HB4:=Lib.hid BA
 clear XF BA B3 HT2 HX2 HB2
 rw [hn4] at HX4
 clear hn4
 go_wp2_with fail
 with_reducible refine (PS.out _).mono ?_
 rintro e Y5 ⟨A,a,B,b,rfl,hC,hb5⟩
 have HB5:=Lib.hid (HB4.out.trans (hb5.mono HB4.out.size))
 have PA2:=Lib.hid (PA.out Y5 A a B b K1 k1 (LD.out _ HB5.out) hC (HT3.out.below hb5))
 have HX4a:=Lib.hid (HX4.out.below hb5 HX4.out.lt)
 have HX2b:=Lib.hid (HX2a.out.below hb5 HX2a.out.lt)
 clear PA PS LD hC HT3 HX4 HX2a HB4 hb5
 go_wp2_with fail
 with_reducible refine PA2.out.mono ?_
 rintro e Y6 ⟨A',a',B',b',rfl,hC,hb6⟩
 have HB6:=Lib.hid (HB5.out.trans (hb6.mono HB5.out.size))
 have HX4b:=Lib.hid (HX4a.out.below hb6 HX4a.out.lt)
 have HX2c:=Lib.hid (HX2b.out.below hb6 HX2b.out.lt)
 obtain ⟨eb,eo,rfl,heb,hat⟩:=hC.ents.at (m:=0) (by show 0 < 3;omega)
 obtain ⟨C1,c1,Ea,d1,-,ea,-,el1⟩:=hat 1 (by show 1 < 3;omega)
 obtain ⟨C2,c2,Eb,d2,-,ec,-,el2⟩:=hat 2 (by show 2 < 3;omega)
 obtain ⟨p1,o1,rfl,hp1,hq1⟩:=el1.at (m:=0) (by show 0 < 1;omega)
 obtain ⟨p2,o2,rfl,hp2,hq2⟩:=el2.at (m:=0) (by show 0 < 1;omega)
 have qa:=(hq1 0 (by show 0 < 1;omega)).1
 have qb:=(hq2 0 (by show 0 < 1;omega)).1
 change Y6.cell? ⟨eb,eo+1*2+1,none⟩=some (.slice (some ⟨p1,o1,none⟩) 1 d1) at ea
 change Y6.cell? ⟨eb,eo+2*2+1,none⟩=some (.slice (some ⟨p2,o2,none⟩) 1 d2) at ec
 change Y6.cell? ⟨p1,o1+0*4,none⟩=some (.int .i64 17) at qa
 change Y6.cell? ⟨p2,o2+0*4,none⟩=some (.int .i64 18) at qb
 simp only [Nat.reduceMul,Nat.add_zero] at ea ec qa qb
 have XC:Box ((Y6.alloc (.cells #[.slice (some ⟨eb,eo,none⟩) 3 a',.slice B' 0 b',.int .i64 101,.int .i64 32,.int .i64 2] 32)).alloc (.cells #[.int .i64 0,.int .i64 0] 47)) Y6.heap.size 32 [.slice (some ⟨eb,eo,none⟩) 3 a',.slice B' 0 b',.int .i64 101,.int .i64 32,.int .i64 2]:=bx_alloc (Box.new Y6 32 [.slice (some ⟨eb,eo,none⟩) 3 a',.slice B' 0 b',.int .i64 101,.int .i64 32,.int .i64 2] rfl) _
 have XF:Box ((Y6.alloc (.cells #[.slice (some ⟨eb,eo,none⟩) 3 a',.slice B' 0 b',.int .i64 101,.int .i64 32,.int .i64 2] 32)).alloc (.cells #[.int .i64 0,.int .i64 0] 47)) (Y6.heap.size+1) 47 [.int .i64 0,.int .i64 0]:=Box.new _ 47 [.int .i64 0,.int .i64 0] (by simp)
 have BF:Below Y6.heap.size Y6 ((Y6.alloc (.cells #[.slice (some ⟨eb,eo,none⟩) 3 a',.slice B' 0 b',.int .i64 101,.int .i64 32,.int .i64 2] 32)).alloc (.cells #[.int .i64 0,.int .i64 0] 47)):=((Below.refl _ _).alloc (Nat.le_refl _) _).alloc (by simp) _
 have WE:=Lib.hid (show ∃V,((Y6.alloc (.cells #[.slice (some ⟨eb,eo,none⟩) 3 a',.slice B' 0 b',.int .i64 101,.int .i64 32,.int .i64 2] 32)).alloc (.cells #[.int .i64 0,.int .i64 0] 47))=V from ⟨_,rfl⟩)
 have sa:=(BF.cell (p:=⟨eb,eo+2+1,none⟩) heb).trans ea
 have sb:=(BF.cell (p:=⟨eb,eo+4+1,none⟩) heb).trans ec
 have sc:=(BF.cell (p:=⟨p1,o1,none⟩) hp1).trans qa
 have sd:=(BF.cell (p:=⟨p2,o2,none⟩) hp2).trans qb
 clear hC hb6 hat el1 el2 hq1 hq2 ea ec qa qb heb hp1 hp2 PA2
 go_upto_region 4 with (fail)
 obtain ⟨Y7,hY7⟩:=WE.out
 rw [hY7] at XC XF BF sa sb sc sd ⊢
 clear hY7 WE
 have x2:=HX2c.out.below BF HX2c.out.lt
 have x4:=HX4b.out.below BF HX4b.out.lt
 have BW:=HB6.out.trans (BF.mono HB6.out.size)
 have a0:=XC.cell (i:=0) rfl
 have a1:=XC.cell (i:=1) rfl
 have a2:=XC.cell (i:=2) rfl
 have a3:=XC.cell (i:=3) rfl
 have a4:=XC.cell (i:=4) rfl
 have b0:=XF.cell (i:=0) rfl
 have b1:=XF.cell (i:=1) rfl
 have c0:=x2.cell (i:=0) rfl
 have c1:=x2.cell (i:=1) rfl
 have d0:=x4.cell (i:=0) rfl
 have d1:=x4.cell (i:=1) rfl
 have n1:=fun W=>(neq_fault 0 0 0 0 W).trans (by rfl)
 have n2':=fun W=>(eql_fault 3 11 3 11 W).trans (by rfl)
 have HBW:=Lib.hid BW
 clear XC XF BF x2 x4 BW HX2c HX4b HB6 HB5 HX4a HX2b EQ NE
 go_wp2_with fail
 go_ret
 exact ⟨rfl,HBW.out⟩
end Go.Proofs.YtkhmjidaeliccaaGreatDoor
namespace Go.Proofs.YtkhmjidaeliccaaGreatDoor
open Go.RowKit Go.Maps Go.WideMaps Tl Pa
theorem pre_ext (s:ByteArray) {e:Nat} (he:e≤s.size):Pre s (s.extract 0 e) e:=by
 refine ⟨by rw [ByteArray.size_extract];omega,he,fun i hi=>?_⟩
 have h1:i < (s.extract 0 e).size:=by rw [ByteArray.size_extract];omega
 have h2:i < s.size:=by omega
 rw [bt_lt h1,bt_lt h2]
 congr 1
 simp [ByteArray.getElem_extract]
theorem TailorPlaces_any (s:ByteArray) (w:World) (hL:Laid w):Calls Tryz.prog 5 #[.string s] w (RetTrue w):=by
 have AL:=Lib.hid (fun W (hb:Below w.heap.size w W)=>alive_any W (hL.below hb))
 have PA:=Lib.hid (fun (s:ByteArray) (h:s.size≤400) W=>parse_any s W (by omega))
 have PP:=Lib.hid (fun (s:ByteArray) (h:s.size≤400)=>parseF_small (s:=s) (by omega))
 unfold RetParse at PA
 unfold RetTrue at AL ⊢
 have HPRE:=Lib.hid (fun e (he:e≤s.size)=>pre_ext s he)
 clear hL
 go_enter Tryz.func5,Tryz.ntmps5
 by_cases hb:400 < s.size
 ·have d1:decide ((400:Int) < (s.size:Int))=true:=by simp;omega
  go_wp2_with fail
  with_reducible refine (AL.out _ (Below.refl _ _)).mono ?_
  rintro e W1 ⟨rfl,hb1⟩
  go_wp2_with fail
  go_ret
  exact ⟨rfl,hb1⟩
 ·have d1:decide ((400:Int) < (s.size:Int))=false:=by simp;omega
  have P1:=Lib.hid (PA.out s (by omega) w)
  rw [PP.out s (by omega)] at P1
  cases hp:parse s with
  | ok q=>
   obtain ⟨l,j⟩:=q
   rw [hp] at P1
   unfold retP at P1
   dsimp only at P1
   clear hp PA PP HPRE
   go_wp2_with fail
   with_reducible refine P1.out.mono ?_
   rintro e W1 ⟨K1,k1,rfl,-,hb1⟩
   have HB1:=Lib.hid hb1
   clear hb1 P1
   have BA:=(HB1.out).alloc (HB1.out).size (.cells #[.int .i64 0,.int .i64 0] 47)
   have XF:Box (W1.alloc (.cells #[.int .i64 0,.int .i64 0] 47)) W1.heap.size 47 [.int .i64 0,.int .i64 0]:=Box.new W1 47 [.int .i64 0,.int .i64 0] rfl
   have BB:=(Below.refl W1.heap.size W1).alloc (Nat.le_refl _) (.cells #[.int .i64 0,.int .i64 0] 47)
   have WE:=Lib.hid (show ∃V,W1.alloc (.cells #[.int .i64 0,.int .i64 0] 47)=V from ⟨_,rfl⟩)
   obtain ⟨n4,hn4⟩:∃n,W1.heap.size=n:=⟨_,rfl⟩
   go_upto_region 4 with (fail)
   obtain ⟨W2,hV⟩:=WE.out
   rw [hV] at XF BA BB ⊢
   clear hV WE
   have HBn4:=Lib.hid BA
   have HBBn4:=Lib.hid BB
   rw [hn4] at XF
   have HXn4:=Lib.hid XF
   clear XF BA BB hn4
   have c0:=HXn4.out.cell (i:=0) rfl
   have c1:=HXn4.out.cell (i:=1) rfl
   go_wp2_with fail
   with_reducible refine (AL.out _ HBn4.out).mono ?_
   rintro e W3 ⟨rfl,hb3⟩
   have HB3:=Lib.hid (HBn4.out.trans (hb3.mono HBn4.out.size))
   clear hb3 c0 c1
   go_wp2_with fail
   go_ret
   exact ⟨rfl,HB3.out⟩
  | error f=>
   obtain ⟨hfs,-⟩:=parse_pre (s':=s.extract 0 f) hp (fun he=>HPRE.out f he)
   have hpre:=(parse_pre (s':=s.extract 0 f) hp (fun he=>HPRE.out f he)).2
   rw [hp] at P1
   unfold retP at P1
   dsimp only at P1
   have hsz:(s.extract 0 f).size≤400:=by rw [ByteArray.size_extract];omega
   have P2:=Lib.hid (fun W=>PA.out (s.extract 0 f) hsz W)
   rw [PP.out _ hsz] at P2
   have HPR:=Lib.hid hpre
   have d2:decide ((f:Int) < 0)=false:=by simp
   have d3:decide ((s.size:Int) < (f:Int))=false:=by simp;omega
   have d4:(f:Int)≤(s.size:Int):=by omega
   clear hp PA PP HPRE hpre
   go_wp2_with fail
   with_reducible refine P1.out.mono ?_
   rintro e W1 ⟨K1,k1,rfl,-,hb1⟩
   have HB1:=Lib.hid hb1
   clear hb1 P1
   have BA:=(HB1.out).alloc (HB1.out).size (.cells #[.int .i64 3,.int .i64 f] 47)
   have XF:Box (W1.alloc (.cells #[.int .i64 3,.int .i64 f] 47)) W1.heap.size 47 [.int .i64 3,.int .i64 f]:=Box.new W1 47 [.int .i64 3,.int .i64 f] rfl
   have BB:=(Below.refl W1.heap.size W1).alloc (Nat.le_refl _) (.cells #[.int .i64 3,.int .i64 f] 47)
   have WE:=Lib.hid (show ∃V,W1.alloc (.cells #[.int .i64 3,.int .i64 f] 47)=V from ⟨_,rfl⟩)
   obtain ⟨n4,hn4⟩:∃n,W1.heap.size=n:=⟨_,rfl⟩
   go_upto_region 4 with (fail)
   obtain ⟨W2,hV⟩:=WE.out
   rw [hV] at XF BA BB ⊢
   clear hV WE
   have HBn4:=Lib.hid BA
   have HBBn4:=Lib.hid BB
   rw [hn4] at XF
   have HXn4:=Lib.hid XF
   clear XF BA BB hn4
   have c0:=HXn4.out.cell (i:=0) rfl
   have c1:=HXn4.out.cell (i:=1) rfl
   have h9:=(Below.refl w.heap.size w)
   rcases HPR.out with hp2 | ⟨l2,j2,hp2⟩
   ·rw [hp2] at P2
    unfold retP at P2
    dsimp only at P2
    have e1:=fun W=>(eql_fault 3 f 0 0 W).trans (by rw [decide_eq_false (by simp)])
    have e2:=fun W=>(eql_fault 3 f 3 f W).trans (by rw [decide_eq_true rfl])
    clear hp2 HPR
    go_wp2_with fail
    with_reducible refine (P2.out _).mono ?_
    rintro e W3 ⟨K3,k3,rfl,-,hb3⟩
    have HB3:=Lib.hid (HBn4.out.trans (hb3.mono HBn4.out.size))
    have HXn4b:=Lib.hid (HXn4.out.below hb3 HXn4.out.lt)
    clear hb3 P2 c0 c1
    have BA:=(HB3.out).alloc (HB3.out).size (.cells #[.int .i64 3,.int .i64 f] 47)
    have XF:Box (W3.alloc (.cells #[.int .i64 3,.int .i64 f] 47)) W3.heap.size 47 [.int .i64 3,.int .i64 f]:=Box.new W3 47 [.int .i64 3,.int .i64 f] rfl
    have BB:=(Below.refl W3.heap.size W3).alloc (Nat.le_refl _) (.cells #[.int .i64 3,.int .i64 f] 47)
    have WE:=Lib.hid (show ∃V,W3.alloc (.cells #[.int .i64 3,.int .i64 f] 47)=V from ⟨_,rfl⟩)
    obtain ⟨n6,hn6⟩:∃n,W3.heap.size=n:=⟨_,rfl⟩
    go_upto_region 9 with (fail)
    obtain ⟨W4,hV⟩:=WE.out
    rw [hV] at XF BA BB ⊢
    clear hV WE
    have HBn6:=Lib.hid BA
    have HBBn6:=Lib.hid BB
    rw [hn6] at XF
    have HXn6:=Lib.hid XF
    clear XF BA BB hn6
    have c2:=(HXn4b.out.below HBBn6.out HXn4b.out.lt).cell (i:=1) rfl
    have c0:=HXn6.out.cell (i:=0) rfl
    have c1:=HXn6.out.cell (i:=1) rfl
    go_wp2_with fail
    with_reducible refine (AL.out _ HBn6.out).mono ?_
    rintro e W5 ⟨rfl,hb5⟩
    have HB5:=Lib.hid (HBn6.out.trans (hb5.mono HBn6.out.size))
    clear hb5 c0 c1
    go_wp2_with fail
    go_ret
    exact ⟨rfl,HB5.out⟩
   ·rw [hp2] at P2
    unfold retP at P2
    dsimp only at P2
    have e1:=fun W=>(eql_fault 0 0 0 0 W).trans (by rw [decide_eq_true rfl])
    clear hp2 HPR
    go_wp2_with fail
    with_reducible refine (P2.out _).mono ?_
    rintro e W3 ⟨K3,k3,rfl,-,hb3⟩
    have HB3:=Lib.hid (HBn4.out.trans (hb3.mono HBn4.out.size))
    clear hb3 P2 c0 c1
    have BA:=(HB3.out).alloc (HB3.out).size (.cells #[.int .i64 0,.int .i64 0] 47)
    have XF:Box (W3.alloc (.cells #[.int .i64 0,.int .i64 0] 47)) W3.heap.size 47 [.int .i64 0,.int .i64 0]:=Box.new W3 47 [.int .i64 0,.int .i64 0] rfl
    have BB:=(Below.refl W3.heap.size W3).alloc (Nat.le_refl _) (.cells #[.int .i64 0,.int .i64 0] 47)
    have WE:=Lib.hid (show ∃V,W3.alloc (.cells #[.int .i64 0,.int .i64 0] 47)=V from ⟨_,rfl⟩)
    obtain ⟨n6,hn6⟩:∃n,W3.heap.size=n:=⟨_,rfl⟩
    go_upto_region 9 with (fail)
    obtain ⟨W4,hV⟩:=WE.out
    rw [hV] at XF BA BB ⊢
    clear hV WE
    have HBn6:=Lib.hid BA
    have HBBn6:=Lib.hid BB
    rw [hn6] at XF
    have HXn6:=Lib.hid XF
    clear XF BA BB hn6
    have c0:=HXn6.out.cell (i:=0) rfl
    have c1:=HXn6.out.cell (i:=1) rfl
    go_wp2_with fail
    with_reducible refine (AL.out _ HBn6.out).mono ?_
    rintro e W5 ⟨rfl,hb5⟩
    have HB5:=Lib.hid (HBn6.out.trans (hb5.mono HBn6.out.size))
    clear hb5 c0 c1
    go_wp2_with fail
    go_ret
    exact ⟨rfl,HB5.out⟩
end Go.Proofs.YtkhmjidaeliccaaGreatDoor
namespace Go.Proofs.YtkhmjidaeliccaaGreatDoor
open Go.ChangeShapes Go.WideShapes Go.ChangeAt Go.RowKit
end Go.Proofs.YtkhmjidaeliccaaGreatDoor
namespace Go.Proofs.YtkhmjidaeliccaaGreatDoor
open Go.ChangeShapes Go.WideShapes Go.ChangeAt Go.RowKit
end Go.Proofs.YtkhmjidaeliccaaGreatDoor
namespace Go.Proofs.YtkhmjidaeliccaaGreatDoor
open Go.ChangeShapes Go.WideShapes Go.ChangeAt Go.RowKit
section
variable {H:Type} {enc:TypeId × Value→H} {w:World} {base:Nat} {spare:Nat→Bool} {held:Bool} {fuel:Nat} {cs:List Value} {x:DataW H × List MemPlace}
instance:Inhabited Rg:=⟨⟨0,0⟩⟩
end
end Go.Proofs.YtkhmjidaeliccaaGreatDoor
namespace Go.Proofs.YtkhmjidaeliccaaGreatDoor
open Go.ChangeShapes Go.WideShapes Go.ChangeAt Go.RowKit
section
variable {H:Type} {enc:TypeId × Value→H} {w:World} {base:Nat} {spare:Nat→Bool} {held:Bool} {fuel:Nat} {cs:List Value} {x:DataW H × List MemPlace}
instance:Inhabited Spn:=⟨⟨0,0,0⟩⟩
end
section
variable {H:Type} {enc:TypeId × Value→H} {w:World} {base:Nat} {spare:Nat→Bool} {held:Bool}
end
theorem gName:Tryz.prog.globalNamed "unicodetext/ordering.hangulRanges"=some 1:=by kernel_rfl
theorem gType:(Tryz.prog.globals[1]?).map (·.type)=some 222:=by kernel_rfl
theorem laid_of {W:World} (h:laidMet Tryz.prog [("unicodetext/ordering.hangulRanges",Rows.laid_unicodetext_ordering_hangulRanges)] W):Laid W:=by
 obtain ⟨ps,⟨g',t',cs,fuel,p,q,hg',ht',hvar,hd,_,_⟩,_⟩:=h
 obtain rfl:=Option.some.inj (gName.symm.trans hg')
 obtain rfl:=Option.some.inj (gType.symm.trans ht')
 have cr:Tryz.prog.cellsOf 179=2:=by kernel_rfl
 have ci:Tryz.prog.cellsOf 3=1:=by kernel_rfl
 obtain ⟨xs,m,_,hxy,hlen,hxl,hel⟩:=DataW.trod_array Tryz.underlying222 hd
 match xs,hxl with
 | [y0,y1,y2,y3],_=>
  simp only [Rows.laid_unicodetext_ordering_hangulRanges,Prod.mk.injEq,DataW.agg.injEq,List.map_cons,List.map_nil,List.cons.injEq,and_true] at hxy
  obtain ⟨⟨e0,e1,e2,e3⟩,_⟩:=hxy
  have pair:∀(enc:TypeId × Value→Unit) (base:Nat) (spare:Nat→Bool) (held:Bool) (i:Nat) (a b:Int) (y:DataW Unit × List MemPlace),DataW.trod enc Tryz.prog W base spare held m 179 ((cs.toList.drop (i*2)).take 2)=some y→.agg [.lit (.int .i64 a),.lit (.int .i64 b)]=y.1→cs.toList[i*2]?=some (.int .i64 a)∧cs.toList[i*2+1]?=some (.int .i64 b):=by
   intro enc base spare held i a b y hy he
   obtain ⟨zs,k,_,hz,hzl,hzn,hfs⟩:=DataW.trod_struct Tryz.underlying179 hy
   match zs,hzn with
   | [u0,u1],_=>
    have g0:=hfs 0 _ rfl
    have g1:=hfs 1 _ rfl
    obtain ⟨z0,f0,rfl,_⟩:=DataW.trod_int Tryz.underlying3 g0
    obtain ⟨z1,f1,rfl,_⟩:=DataW.trod_int Tryz.underlying3 g1
    subst hz
    simp at he
    obtain ⟨rfl,rfl⟩:=he
    have h0:=congrArg (·[0]?) f0
    have h1:=congrArg (·[0]?) f1
    simp [ci,List.getElem?_drop] at h0 h1
    exact ⟨by simpa using h0,by simpa using h1⟩
  rw [cr] at hel
  have p0:=pair _ _ _ _ 0 _ _ _ (hel 0 (by omega)) e0
  have p1:=pair _ _ _ _ 1 _ _ _ (hel 1 (by omega)) e1
  have p2:=pair _ _ _ _ 2 _ _ _ (hel 2 (by omega)) e2
  have p3:=pair _ _ _ _ 3 _ _ _ (hel 3 (by omega)) e3
  have cell:=fun i=>World.var?_cell gName hvar i
  simp only [←Array.getElem?_toList] at cell
  exact ⟨(cell 0).trans p0.1,(cell 1).trans p0.2,(cell 2).trans p1.1,(cell 3).trans p1.2,(cell 4).trans p2.1,(cell 5).trans p2.2,(cell 6).trans p3.1,(cell 7).trans p3.2⟩
end Go.Proofs.YtkhmjidaeliccaaGreatDoor
