/- Texts that are merged into one file: SlAlive, LawN, LawF. -/
import Derived.Test.YtpfbnikbebccjaaGreatDoorG09
import Derived.Test.YtpfbnikbebccjaaGreatDoorG14
import Derived.Test.YtpfbnikbebccjaaGreatDoorG26
import Derived.Test.YtpfbnikbebccjaaGreatDoorG27
import Derived.OpenShut
/- The nil list; letters; alive: what the chapter fixes holds. Written by gen_slalive.py. -/
namespace Go.Proofs.YtpfbnikbebccjaaGreatDoor
open Go.RowKit Go.Maps Go.WideMaps Srl

theorem nilPosition_any (id : Int) (w : World) : Calls Tryz.prog 22 #[.pointer none, .int .i64 id] w (fun e w' => e = .returned (.int .i64 (-1)) ∧ w = w') := by
  go_enter Tryz.func22, Tryz.ntmps22
  go_wp2_with fail
  go_ret
  exact ⟨rfl, rfl⟩

theorem nilPut_any (id : Int) (A : Option Addr) (n k : Nat) (w : World) : Calls Tryz.prog 16 #[.pointer none, .int .i64 id, .slice A n k] w (fun e w' => e = .returned (.tuple #[.int .i64 0, .int .i64 16]) ∧ w = w') := by
  go_enter Tryz.func16, Tryz.ntmps16
  go_wp2_with fail
  go_ret2
  exact ⟨rfl, rfl⟩

theorem nilGet_any (id : Int) (w : World) : Calls Tryz.prog 17 #[.pointer none, .int .i64 id] w (fun e w' => e = .returned (.tuple #[.slice none 0 0, .bool false]) ∧ w = w') := by
  go_enter Tryz.func17, Tryz.ntmps17
  go_wp2_with fail
  go_ret2
  exact ⟨rfl, rfl⟩

theorem nilItems_any (w : World) : Calls Tryz.prog 20 #[.pointer none] w (fun e w' => e = .returned (.slice none 0 0) ∧ w = w') := by
  go_enter Tryz.func20, Tryz.ntmps20
  go_wp2_with fail
  go_ret
  exact ⟨rfl, rfl⟩

theorem nilLookup_any (A : Option Addr) (n k : Nat) (w : World) : Calls Tryz.prog 24 #[.pointer none, .slice A n k] w (fun e w' => e = .returned (.slice none 0 0) ∧ w = w') := by
  go_enter Tryz.func24, Tryz.ntmps24
  go_wp2_with fail
  go_ret
  exact ⟨rfl, rfl⟩

theorem nilBetween_any (A : Option Addr) (n k : Nat) (B : Option Addr) (m j : Nat) (w : World) : Calls Tryz.prog 26 #[.pointer none, .slice A n k, .slice B m j] w (fun e w' => e = .returned (.slice none 0 0) ∧ w = w') := by
  go_enter Tryz.func26, Tryz.ntmps26
  go_wp2_with fail
  go_ret
  exact ⟨rfl, rfl⟩

theorem nilRemove_any (id : Int) (w : World) : Calls Tryz.prog 14 #[.pointer none, .int .i64 id] w (fun e w' => e = .returned (.bool false) ∧ w = w') := by
  have PC := Lib.hid (fun W => nilPosition_any id W)
  go_enter Tryz.func14, Tryz.ntmps14
  go_wp2_with fail
  with_reducible refine (PC.out _).mono ?_
  rintro e W1 ⟨rfl, rfl⟩
  go_wp2_with fail
  go_ret
  exact ⟨rfl, rfl⟩

def letC : Col := ⟨[⟨[97], [⟨5, 32, 2, false⟩]⟩, ⟨[98], [⟨6, 32, 2, false⟩]⟩], [], 64448, 32, 2⟩
theorem letC_sz : ColSz letC := by
  refine ⟨fun i hi => ?_, by simp [letC], by simp [letC]⟩
  have : i = 0 ∨ i = 1 := by simp [letC] at hi; omega
  rcases this with rfl | rfl <;> simp [letC]
theorem results_colK {fn : Func} {k : Nat} (hr : fn.results = #[.cell k 32]) (tmps : Array Value) (w : World) {b : Nat} {v0 v1 v2 v3 v4 : Value} (ha : tmps.getD k undef = .pointer (some ⟨b, 0, none⟩))
    (c0 : w.cell? ⟨b, 0, none⟩ = some v0) (c1 : w.cell? ⟨b, 1, none⟩ = some v1) (c2 : w.cell? ⟨b, 2, none⟩ = some v2) (c3 : w.cell? ⟨b, 3, none⟩ = some v3) (c4 : w.cell? ⟨b, 4, none⟩ = some v4) :
    (results fn tmps).run Tryz.prog w = .ok (.agg #[v0, v1, v2, v3, v4]) w := by
  unfold results
  rw [hr]
  simp only [ha, List.mapM_toArray, List.mapM_cons, List.mapM_nil, asAddr]
  go_simp
theorem sl_set_ne {q : Nat} {cs : List Value} {W : World} (h : Sl W (some ⟨q, 0, none⟩) cs) (p : Addr) (hp : p.block ≠ q) (v : Value) : Sl (W.setCell p v) (some ⟨q, 0, none⟩) cs :=
  Sl.stored h p (fun _ q' hq => by have := Option.some.inj (show some q = some q' from hq); omega) v
/-- an entry is laid: its text, its element, its box -/
theorem lay_entry (W : World) (z p : Int) : Ints (((W.alloc (.cells #[.int .i64 z] 3)).alloc (.cells #[.int .i64 p, .int .i64 32, .int .i64 2, .bool false] 106)).alloc (.cells #[.slice (some ⟨W.heap.size, 0, none⟩) 1 1, .slice (some ⟨W.heap.size + 1, 0, none⟩) 1 1] 109)) (some ⟨W.heap.size, 0, none⟩) [z] ∧ Elts (((W.alloc (.cells #[.int .i64 z] 3)).alloc (.cells #[.int .i64 p, .int .i64 32, .int .i64 2, .bool false] 106)).alloc (.cells #[.slice (some ⟨W.heap.size, 0, none⟩) 1 1, .slice (some ⟨W.heap.size + 1, 0, none⟩) 1 1] 109)) (some ⟨W.heap.size + 1, 0, none⟩) [⟨p, 32, 2, false⟩] ∧ Box (((W.alloc (.cells #[.int .i64 z] 3)).alloc (.cells #[.int .i64 p, .int .i64 32, .int .i64 2, .bool false] 106)).alloc (.cells #[.slice (some ⟨W.heap.size, 0, none⟩) 1 1, .slice (some ⟨W.heap.size + 1, 0, none⟩) 1 1] 109)) (W.heap.size + 1 + 1) 109 [.slice (some ⟨W.heap.size, 0, none⟩) 1 1, .slice (some ⟨W.heap.size + 1, 0, none⟩) 1 1] ∧ Below W.heap.size W (((W.alloc (.cells #[.int .i64 z] 3)).alloc (.cells #[.int .i64 p, .int .i64 32, .int .i64 2, .bool false] 106)).alloc (.cells #[.slice (some ⟨W.heap.size, 0, none⟩) 1 1, .slice (some ⟨W.heap.size + 1, 0, none⟩) 1 1] 109)) := by
  have al : ∀ (W : World) (o : Obj), Below W.heap.size W (W.alloc o) := fun W o => (Below.refl _ _).alloc (Nat.le_refl _) _
  have a1 : Ints (W.alloc (.cells #[.int .i64 z] 3)) (some ⟨W.heap.size, 0, none⟩) [z] := Ints_new W [z] 3 rfl
  have a2 : Elts ((W.alloc (.cells #[.int .i64 z] 3)).alloc (.cells #[.int .i64 p, .int .i64 32, .int .i64 2, .bool false] 106)) (some ⟨W.heap.size + 1, 0, none⟩) [⟨p, 32, 2, false⟩] := Sl_new (W.alloc (.cells #[.int .i64 z] 3)) [.int .i64 p, .int .i64 32, .int .i64 2, .bool false] 106 (by simp)
  exact ⟨(a1.below (al _ _)).below (al _ _), a2.below (al _ _), Box.new _ _ _ (by simp), ((al W _).alloc (by simp) _).alloc (by simp <;> omega) _⟩
set_option maxRecDepth 100000 in
set_option maxHeartbeats 6400000 in
theorem letters_any (w : World) : Calls Tryz.prog 32 #[] w (RetCol letC w) := by
  have B1 : Below w.heap.size w (w.alloc (.cells #[.slice none 0 0, .slice none 0 0, .int .i64 0, .int .i64 0, .int .i64 0] 32)) := (Below.refl _ _).alloc (Nat.le_refl _) _
  have X1 : Box (w.alloc (.cells #[.slice none 0 0, .slice none 0 0, .int .i64 0, .int .i64 0, .int .i64 0] 32)) w.heap.size 32 [.slice none 0 0, .slice none 0 0, .int .i64 0, .int .i64 0, .int .i64 0] := Box.new w 32 [.slice none 0 0, .slice none 0 0, .int .i64 0, .int .i64 0, .int .i64 0] rfl
  have W1E : ∃ W1, (w.alloc (.cells #[.slice none 0 0, .slice none 0 0, .int .i64 0, .int .i64 0, .int .i64 0] 32)) = W1 := ⟨_, rfl⟩
  go_enter Tryz.func32, Tryz.ntmps32
  go_upto_region 1 with (fail)
  obtain ⟨W1, hW1⟩ := W1E
  try rw [hW1] at B1 X1 ⊢
  clear hW1
  have lx := X1.lt
  obtain ⟨a1, a2, XA, b4⟩ := lay_entry W1 97 5
  have W4E : ∃ W4, (((W1.alloc (.cells #[.int .i64 97] 3)).alloc (.cells #[.int .i64 5, .int .i64 32, .int .i64 2, .bool false] 106)).alloc (.cells #[.slice (some ⟨W1.heap.size, 0, none⟩) 1 1, .slice (some ⟨W1.heap.size + 1, 0, none⟩) 1 1] 109)) = W4 := ⟨_, rfl⟩
  go_upto_region 2 with (fail)
  obtain ⟨W4, hW4⟩ := W4E
  try rw [hW4] at a1 a2 XA b4 ⊢
  clear hW4
  have lA := XA.lt
  have B4 := B1.trans (b4.mono B1.size)
  have X4 := X1.below b4 lx
  obtain ⟨a3, a4, XB, b7⟩ := lay_entry W4 98 6
  have W7E : ∃ W7, (((W4.alloc (.cells #[.int .i64 98] 3)).alloc (.cells #[.int .i64 6, .int .i64 32, .int .i64 2, .bool false] 106)).alloc (.cells #[.slice (some ⟨W4.heap.size, 0, none⟩) 1 1, .slice (some ⟨W4.heap.size + 1, 0, none⟩) 1 1] 109)) = W7 := ⟨_, rfl⟩
  go_upto_region 3 with (fail)
  obtain ⟨W7, hW7⟩ := W7E
  try rw [hW7] at a3 a4 XB b7 ⊢
  clear hW7
  have B7 := B4.trans (b7.mono B4.size)
  have X7 := X4.below b7 X4.lt
  have XA7 := XA.below b7 lA
  have a1' := a1.below b7
  have a2' := a2.below b7
  have d0 := XA7.cell (i := 0) rfl
  have d1 := XA7.cell (i := 1) rfl
  have e0 := XB.cell (i := 0) rfl
  have e1 := XB.cell (i := 1) rfl
  have l7 := X7.lt
  have h14 : W1.heap.size + 1 + 1 < W4.heap.size := lA
  have h47 : W4.heap.size + 1 + 1 < W7.heap.size := XB.lt
  have al : ∀ (W : World) (o : Obj), Below W.heap.size W (W.alloc o) := fun W o => (Below.refl _ _).alloc (Nat.le_refl _) _
  have f0 := X7.free 0
  have f1 := X7.free 1
  have f2 := X7.free 2
  have f3 := X7.free 3
  have f4 := X7.free 4
  have g0 := X7.cell (i := 0) rfl
  have g1 := X7.cell (i := 1) rfl
  have g2 := X7.cell (i := 2) rfl
  have g3 := X7.cell (i := 3) rfl
  have g4 := X7.cell (i := 4) rfl
  have hx : w.heap.size < W1.heap.size := lx
  have st : ∀ {q : Nat} {cs : List Value}, Sl W7 (some ⟨q, 0, none⟩) cs → w.heap.size ≠ q → Sl ((((((W7.setCell ⟨w.heap.size, 0, none⟩ (.slice (some ⟨W7.heap.size, 0, none⟩) 2 2)).setCell ⟨w.heap.size, 1, none⟩ (.slice none 0 0)).setCell ⟨w.heap.size, 2, none⟩ (.int .i64 64448)).setCell ⟨w.heap.size, 3, none⟩ (.int .i64 32)).setCell ⟨w.heap.size, 4, none⟩ (.int .i64 2)).alloc (.cells #[.slice (some ⟨W1.heap.size, 0, none⟩) 1 1, .slice (some ⟨W1.heap.size + 1, 0, none⟩) 1 1, .slice (some ⟨W4.heap.size, 0, none⟩) 1 1, .slice (some ⟨W4.heap.size + 1, 0, none⟩) 1 1] 109)) (some ⟨q, 0, none⟩) cs := fun h hq => (sl_set_ne (sl_set_ne (sl_set_ne (sl_set_ne (sl_set_ne h ⟨w.heap.size, 0, none⟩ hq _) ⟨w.heap.size, 1, none⟩ hq _) ⟨w.heap.size, 2, none⟩ hq _) ⟨w.heap.size, 3, none⟩ hq _) ⟨w.heap.size, 4, none⟩ hq _).below (al _ _)
  have r1 := st a1' (by omega)
  have r2 := st a2' (by omega)
  have r3 := st a3 (by omega)
  have r4 := st a4 (by omega)
  have r7 : Sl ((((((W7.setCell ⟨w.heap.size, 0, none⟩ (.slice (some ⟨W7.heap.size, 0, none⟩) 2 2)).setCell ⟨w.heap.size, 1, none⟩ (.slice none 0 0)).setCell ⟨w.heap.size, 2, none⟩ (.int .i64 64448)).setCell ⟨w.heap.size, 3, none⟩ (.int .i64 32)).setCell ⟨w.heap.size, 4, none⟩ (.int .i64 2)).alloc (.cells #[.slice (some ⟨W1.heap.size, 0, none⟩) 1 1, .slice (some ⟨W1.heap.size + 1, 0, none⟩) 1 1, .slice (some ⟨W4.heap.size, 0, none⟩) 1 1, .slice (some ⟨W4.heap.size + 1, 0, none⟩) 1 1] 109)) (some ⟨W7.heap.size, 0, none⟩) [.slice (some ⟨W1.heap.size, 0, none⟩) 1 1, .slice (some ⟨W1.heap.size + 1, 0, none⟩) 1 1, .slice (some ⟨W4.heap.size, 0, none⟩) 1 1, .slice (some ⟨W4.heap.size + 1, 0, none⟩) 1 1] := Sl_new (((((W7.setCell ⟨w.heap.size, 0, none⟩ (.slice (some ⟨W7.heap.size, 0, none⟩) 2 2)).setCell ⟨w.heap.size, 1, none⟩ (.slice none 0 0)).setCell ⟨w.heap.size, 2, none⟩ (.int .i64 64448)).setCell ⟨w.heap.size, 3, none⟩ (.int .i64 32)).setCell ⟨w.heap.size, 4, none⟩ (.int .i64 2)) [.slice (some ⟨W1.heap.size, 0, none⟩) 1 1, .slice (some ⟨W1.heap.size + 1, 0, none⟩) 1 1, .slice (some ⟨W4.heap.size, 0, none⟩) 1 1, .slice (some ⟨W4.heap.size + 1, 0, none⟩) 1 1] 109 (by simp)
  have ZF : Box ((((((W7.setCell ⟨w.heap.size, 0, none⟩ (.slice (some ⟨W7.heap.size, 0, none⟩) 2 2)).setCell ⟨w.heap.size, 1, none⟩ (.slice none 0 0)).setCell ⟨w.heap.size, 2, none⟩ (.int .i64 64448)).setCell ⟨w.heap.size, 3, none⟩ (.int .i64 32)).setCell ⟨w.heap.size, 4, none⟩ (.int .i64 2)).alloc (.cells #[.slice (some ⟨W1.heap.size, 0, none⟩) 1 1, .slice (some ⟨W1.heap.size + 1, 0, none⟩) 1 1, .slice (some ⟨W4.heap.size, 0, none⟩) 1 1, .slice (some ⟨W4.heap.size + 1, 0, none⟩) 1 1] 109)) w.heap.size 32 [(.slice (some ⟨W7.heap.size, 0, none⟩) 2 2), .slice none 0 0, .int .i64 64448, .int .i64 32, .int .i64 2] := bx_alloc (((((X7.set 0 (.slice (some ⟨W7.heap.size, 0, none⟩) 2 2)).set 1 (.slice none 0 0)).set 2 (.int .i64 64448)).set 3 (.int .i64 32)).set 4 (.int .i64 2)) _
  have BF : Below w.heap.size w ((((((W7.setCell ⟨w.heap.size, 0, none⟩ (.slice (some ⟨W7.heap.size, 0, none⟩) 2 2)).setCell ⟨w.heap.size, 1, none⟩ (.slice none 0 0)).setCell ⟨w.heap.size, 2, none⟩ (.int .i64 64448)).setCell ⟨w.heap.size, 3, none⟩ (.int .i64 32)).setCell ⟨w.heap.size, 4, none⟩ (.int .i64 2)).alloc (.cells #[.slice (some ⟨W1.heap.size, 0, none⟩) 1 1, .slice (some ⟨W1.heap.size + 1, 0, none⟩) 1 1, .slice (some ⟨W4.heap.size, 0, none⟩) 1 1, .slice (some ⟨W4.heap.size + 1, 0, none⟩) 1 1] 109)) := (((((B7.setCell (Nat.le_refl _) _).setCell (Nat.le_refl _) _).setCell (Nat.le_refl _) _).setCell (Nat.le_refl _) _).setCell (Nat.le_refl _) _).alloc (by simp; omega) _
  have WFE : ∃ Wf, ((((((W7.setCell ⟨w.heap.size, 0, none⟩ (.slice (some ⟨W7.heap.size, 0, none⟩) 2 2)).setCell ⟨w.heap.size, 1, none⟩ (.slice none 0 0)).setCell ⟨w.heap.size, 2, none⟩ (.int .i64 64448)).setCell ⟨w.heap.size, 3, none⟩ (.int .i64 32)).setCell ⟨w.heap.size, 4, none⟩ (.int .i64 2)).alloc (.cells #[.slice (some ⟨W1.heap.size, 0, none⟩) 1 1, .slice (some ⟨W1.heap.size + 1, 0, none⟩) 1 1, .slice (some ⟨W4.heap.size, 0, none⟩) 1 1, .slice (some ⟨W4.heap.size + 1, 0, none⟩) 1 1] 109)) = Wf := ⟨_, rfl⟩
  have HX := Lib.hid ZF
  have R1 := Lib.hid r1
  have R2 := Lib.hid r2
  have R3 := Lib.hid r3
  have R4 := Lib.hid r4
  have R7 := Lib.hid r7
  have HBF := Lib.hid BF
  clear r1 r2 r3 r4 r7 BF
  clear h14 h47 hx lx lA al st a1 a2 a3 a4 a1' a2' ZF X7 XA7 XA XB X4 X1 B1 B4 B7 b4 b7
  go_wp2_with fail
  obtain ⟨Wf, hWf⟩ := WFE
  try rw [hWf] at R1 R2 R3 R4 R7 HX HBF ⊢
  clear hWf
  (try simp only [Exit.inBlock, Exit.then])
  refine bodyPost_ret (results_colK (k := 0) rfl _ _ (b := w.heap.size) rfl (HX.out.cell (i := 0) rfl) (HX.out.cell (i := 1) rfl) (HX.out.cell (i := 2) rfl) (HX.out.cell (i := 3) rfl) (HX.out.cell (i := 4) rfl)) rfl ?_
  refine ⟨_, 2, none, 0, rfl, ⟨⟨[(.slice (some ⟨W1.heap.size, 0, none⟩) 1 1, .slice (some ⟨W1.heap.size + 1, 0, none⟩) 1 1), (.slice (some ⟨W4.heap.size, 0, none⟩) 1 1, .slice (some ⟨W4.heap.size + 1, 0, none⟩) 1 1)], rfl, R7.out, fun i hi hv => ?_⟩, Sl.nil _ _, rfl, rfl, fun g hg => by cases hg⟩, HBF.out⟩
  have hi2 : i = 0 ∨ i = 1 := by simp [letC] at hi; omega
  rcases hi2 with rfl | rfl
  · exact ⟨_, _, _, _, rfl, R1.out, R2.out⟩
  · exact ⟨_, _, _, _, rfl, R3.out, R4.out⟩

abbrev nil0 : Nrm := ⟨[], [], []⟩
abbrev opt3 : Opt := ⟨3, 1, false, false⟩
abbrev kyA := kyN nil0 letC opt3
theorem nil0_sz : NrmSz nil0 := ⟨by simp, ⟨by simp, fun i hi => absurd hi (Nat.not_lt_zero _)⟩, by simp⟩
theorem al_ok : newErr nil0 letC opt3 = 0 := by decide +kernel
theorem al_bad : newErr nil0 letC ⟨0, 0, false, false⟩ = 1 := by decide +kernel
theorem al_p1 : putL kyA [] 5 [98] = [(5, [98])] ∧ atL kyA [] 5 [98] = 0 ∧ remL [] 5 = [] := by decide +kernel
theorem al_p2 : putL kyA [(5, [98])] 7 [97] = [(7, [97]), (5, [98])] ∧ atL kyA [(5, [98])] 7 [97] = 0 := by decide +kernel
theorem al_p3 : putL kyA [(7, [97]), (5, [98])] 6 [98] = [(7, [97]), (5, [98]), (6, [98])] := by decide +kernel
theorem al_l3 : lookL kyA [(7, [97]), (5, [98]), (6, [98])] [98] = [(5, [98]), (6, [98])] ∧ btwL kyA [(7, [97]), (5, [98]), (6, [98])] [97] [98] = [(7, [97])] := by decide +kernel
theorem al_r4 : remL [(7, [97]), (5, [98]), (6, [98])] 6 = [(7, [97]), (5, [98])] ∧ remL [(7, [97]), (5, [98])] 6 = [(7, [97]), (5, [98])] := by decide +kernel

theorem lettersL (w : World) : Calls Tryz.prog 32 #[] w (fun e w' => ∃ A a B b, e = .returned (.agg #[.slice A 2 a, .slice B 0 b, .int .i64 64448, .int .i64 32, .int .i64 2]) ∧ ColAt w' A 2 B 0 letC ∧ Below w.heap.size w w') := letters_any w
theorem newL (A : Option Addr) (a : Nat) (B : Option Addr) (b : Nat) (o : Opt) (w : World) (hC : ColAt w A 2 B 0 letC) (hL : Laid w) :
    Calls Tryz.prog 11 #[.agg #[.slice none 0 0, .slice none 0 0, .slice none 0 0], .agg #[.slice A 2 a, .slice B 0 b, .int .i64 64448, .int .i64 32, .int .i64 2], .agg #[.int .i64 o.st, .int .i64 o.va, .bool o.bk, .bool o.idn]] w (RetNew nil0 letC o w) :=
  new_any none 0 none 0 none 0 nil0 A a B b letC o w (NrmAt.empty w) nil0_sz hC letC_sz hL
theorem newOk (A : Option Addr) (a : Nat) (B : Option Addr) (b : Nat) (s : Int) (w : World) (hs : newErr nil0 letC ⟨s, 1, false, false⟩ = 0) (hC : ColAt w A 2 B 0 letC) (hL : Laid w) :
    Calls Tryz.prog 11 #[.agg #[.slice none 0 0, .slice none 0 0, .slice none 0 0], .agg #[.slice A 2 a, .slice B 0 b, .int .i64 64448, .int .i64 32, .int .i64 2], .agg #[.int .i64 s, .int .i64 1, .bool false, .bool false]] w
      (fun e w' => ∃ l V mb, e = .returned (.tuple #[.pointer (some ⟨l, 0, none⟩), .int .i64 0]) ∧ Lst w' l w.heap.size V mb none 0 0 nil0 letC ⟨s, 1, false, false⟩ (fun _ => none) [] ∧ Below w.heap.size w w') := by
  refine (newL A a B b ⟨s, 1, false, false⟩ w hC hL).mono ?_
  rintro e w' ⟨hb, ⟨h, _⟩ | ⟨_, l, V, mb, he, hl⟩⟩
  · exact absurd hs h
  · exact ⟨l, V, mb, he, hl, hb⟩
theorem newBad (A : Option Addr) (a : Nat) (B : Option Addr) (b : Nat) (w : World) (hC : ColAt w A 2 B 0 letC) (hL : Laid w) :
    Calls Tryz.prog 11 #[.agg #[.slice none 0 0, .slice none 0 0, .slice none 0 0], .agg #[.slice A 2 a, .slice B 0 b, .int .i64 64448, .int .i64 32, .int .i64 2], .agg #[.int .i64 0, .int .i64 0, .bool false, .bool false]] w
      (fun e w' => e = .returned (.tuple #[.pointer none, .int .i64 1]) ∧ Below w.heap.size w w') := by
  refine (newL A a B b ⟨0, 0, false, false⟩ w hC hL).mono ?_
  rintro e w' ⟨hb, ⟨_, he⟩ | ⟨h, _⟩⟩
  · rw [al_bad] at he
    exact ⟨he, hb⟩
  · rw [al_bad] at h
    cases h
theorem ApI.below {S : Nat → Prop} {w w' : World} {A : Option Addr} {zs : List Int} (h : ApI S w A zs) (hb : Below w.heap.size w w') : ApI S w' A zs := ⟨h.1.below hb, h.2⟩
section
variable {w w' : World} {l bs : Nat} {V : LsV} {mb : Nat} {O : Option Addr} {oc cnt : Nat} {x : Nrm} {c : Col} {o : Opt} {f : Int → Option Value} {L : Its}
theorem Lst.lf_lt (h : Lst w l bs V mb O oc cnt x c o f L) {k : Nat} (hk : Lf l mb O k) : k < w.heap.size := by
  rcases hk with rfl | rfl | e
  · exact h.box.lt
  · exact h.map.lt
  · exact (own_blk h.row e).2
theorem Lst.fresh (h : Lst w l bs V mb O oc cnt x c o f L) {A : Option Addr} {t : List Int} (hI : Ints w' A t) (hf : ∀ q, blk A = some q → w.heap.size ≤ q) : ApI (Lf l mb O) w' A t :=
  ⟨hI, fun _ q hq hS => by have := h.lf_lt hS; have := hf q hq; omega⟩
theorem Lst.row1 (h : Lst w l bs V mb O oc cnt x c o f L) (z : Int) : ApI (Lf l mb O) (w.alloc (.cells #[.int .i64 z] 3)) (some ⟨w.heap.size, 0, none⟩) [z] :=
  h.fresh (Ints_new w [z] 3 rfl) (fun q hq => by have := Option.some.inj (show some w.heap.size = some q from hq); omega)
theorem Lst.al (h : Lst w l bs V mb O oc cnt x c o f L) (z : Int) : Lst (w.alloc (.cells #[.int .i64 z] 3)) l bs V mb O oc cnt x c o f L := h.below ((Below.refl _ _).alloc (Nat.le_refl _) _)
end
theorem chg_below {l mb : Nat} {O : Option Addr} {n bs : Nat} {w0 w w' : World} (hb : Below n w0 w) (hs : n ≤ w.heap.size) (hc : Chg (Lf l mb O) w w') (hn : n ≤ bs) (hl : ∀ k, Lf l mb O k → bs ≤ k) : Below n w0 w' :=
  hb.trans (hc.below hs (fun k hk => Nat.le_trans hn (hl k hk)))

set_option maxRecDepth 100000 in
set_option maxHeartbeats 25600000 in
theorem alive_any (w : World) (hL : Laid w) : Calls Tryz.prog 10 #[] w (RetTrue w) := by
  have HLd := Lib.hid (fun W (hb : Below w.heap.size w W) => hL.below hb)
  have LT := Lib.hid (fun W => lettersL W)
  have NO := Lib.hid (fun A a B b W => newOk A a B b 3 W al_ok)
  have NB := Lib.hid (fun A a B b W => newBad A a B b W)
  clear hL
  go_enter Tryz.func10, Tryz.ntmps10
  go_wp2_with fail
  with_reducible refine (LT.out w).mono ?_
  rintro e W1 ⟨A, a, B, b, rfl, hC, hb1⟩
  have C1 := Lib.hid (NO.out A a B b W1 hC (HLd.out W1 hb1))
  clear NO hC
  go_wp2_with fail
  with_reducible refine C1.out.mono ?_
  rintro e W2 ⟨l, V, mb, rfl, hl2, hb2⟩
  have H2 := Lib.hid hl2
  have hbs : w.heap.size ≤ W1.heap.size := hb1.size
  have B2 := hb1.trans (hb2.mono hb1.size)
  clear C1 hl2 hb1 hb2
  go_wp2_with fail
  with_reducible refine (LT.out W2).mono ?_
  rintro e W3 ⟨A', a', B', b', rfl, hC, hb3⟩
  have H3 := Lib.hid (H2.out.below hb3)
  have B3 := B2.trans (hb3.mono B2.size)
  have C2 := Lib.hid (NB.out A' a' B' b' W3 hC (HLd.out W3 B3))
  clear NB LT hC H2 B2 hb3
  go_wp2_with fail
  with_reducible refine C2.out.mono ?_
  rintro e W4 ⟨rfl, hb4⟩
  have HH := Lib.hid (H3.out.below hb4)
  have BB := B3.trans (hb4.mono B3.size)
  have HLF := Lib.hid HH.out.lf
  clear C2 H3 B3 hb4 HLd
  have PC := Lib.hid (slPut_any (HH.out.al 98) 5 (by rfl) (some ⟨W4.heap.size, 0, none⟩) 1 [98] (HH.out.row1 98) (by simp) (fun z hz => by simp at hz; subst hz; rfl) (by decide) (by unfold maxLen; omega))
  rw [show kyN nil0 letC opt3 = kyA from rfl, al_p1.1, al_p1.2.1] at PC
  unfold RetL at PC
  dsimp only [List.length_cons, List.length_nil, Nat.reduceAdd] at PC
  have ba := BB.alloc BB.size (.cells #[.int .i64 98] 3)
  have bn : Below W4.heap.size W4 (W4.alloc (.cells #[.int .i64 98] 3)) := (Below.refl _ _).alloc (Nat.le_refl _) _
  clear BB HH
  go_wp2_with fail
  with_reducible refine PC.out.mono ?_
  rintro e W5 ⟨rfl, OW5, ocW5, fW5, hl, hc, hO⟩
  have HH := Lib.hid hl
  have BB := chg_below ba ba.size hc hbs HLF.out
  clear HLF
  have HLF := Lib.hid hl.lf
  clear PC hl hc hO ba bn
  have PC := Lib.hid (slPut_any (HH.out.al 97) 7 (by rfl) (some ⟨W5.heap.size, 0, none⟩) 1 [97] (HH.out.row1 97) (by simp) (fun z hz => by simp at hz; subst hz; rfl) (by decide) (by unfold maxLen; omega))
  rw [show kyN nil0 letC opt3 = kyA from rfl, al_p2.1, al_p2.2] at PC
  unfold RetL at PC
  dsimp only [List.length_cons, List.length_nil, Nat.reduceAdd] at PC
  have ba := BB.alloc BB.size (.cells #[.int .i64 97] 3)
  have bn : Below W5.heap.size W5 (W5.alloc (.cells #[.int .i64 97] 3)) := (Below.refl _ _).alloc (Nat.le_refl _) _
  clear BB HH
  go_wp2_with fail
  with_reducible refine PC.out.mono ?_
  rintro e W6 ⟨rfl, OW6, ocW6, fW6, hl, hc, hO⟩
  have HH := Lib.hid hl
  have BB := chg_below ba ba.size hc hbs HLF.out
  clear HLF
  have HLF := Lib.hid hl.lf
  clear PC hl hc hO ba bn
  have PC := Lib.hid (slPut_any (HH.out.al 98) 6 (by rfl) (some ⟨W6.heap.size, 0, none⟩) 1 [98] (HH.out.row1 98) (by simp) (fun z hz => by simp at hz; subst hz; rfl) (by decide) (by unfold maxLen; omega))
  rw [show kyN nil0 letC opt3 = kyA from rfl, al_p3] at PC
  unfold RetL at PC
  dsimp only [List.length_cons, List.length_nil, Nat.reduceAdd] at PC
  have ba := BB.alloc BB.size (.cells #[.int .i64 98] 3)
  have bn : Below W6.heap.size W6 (W6.alloc (.cells #[.int .i64 98] 3)) := (Below.refl _ _).alloc (Nat.le_refl _) _
  clear BB HH
  go_wp2_with fail
  with_reducible refine PC.out.mono ?_
  rintro e W7 ⟨rfl, OW7, ocW7, fW7, hl, hc, hO⟩
  have HH := Lib.hid hl
  have BB := chg_below ba ba.size hc hbs HLF.out
  clear HLF
  have HLF := Lib.hid hl.lf
  clear PC hl hc hO ba bn
  have PC := Lib.hid (slGet_any HH.out 7 (by rfl))
  unfold RetGetL at PC
  rw [show getL [(7, [97]), (5, [98]), (6, [98])] 7 = some [97] from rfl] at PC
  try dsimp only [List.length_cons, List.length_nil, Nat.reduceAdd, Option.getD_some, Option.isSome_some] at PC
  go_wp2_with fail
  with_reducible refine PC.out.mono ?_
  rintro e W9 ⟨AT, kt, rfl, hT, hf, hbq⟩
  have PT := HH.out.fresh hT hf
  clear hT hf
  have HN := Lib.hid (HH.out.below hbq)
  have BN := BB.trans (hbq.mono BB.size)
  clear HH BB PC
  have HH := HN
  have BB := BN
  clear HN BN hbq
  have PC := Lib.hid (slItems_own HH.out)
  unfold RetOwnI at PC
  rw [show idsL [(7, [97]), (5, [98]), (6, [98])] = [7, 5, 6] from rfl] at PC
  try dsimp only [List.length_cons, List.length_nil, Nat.reduceAdd, Option.getD_some, Option.isSome_some] at PC
  go_wp2_with fail
  with_reducible refine PC.out.mono ?_
  rintro e W10 ⟨AI, ki, rfl, hT, hbq⟩
  have PI := HH.out.fresh (Sl.of_own hT : Ints _ AI [7, 5, 6]) (fun q hq => (own_blk hT hq).1)
  clear hT
  have NPT := PT.below hbq
  clear PT
  have PT := NPT
  clear NPT
  have HN := Lib.hid (HH.out.below hbq)
  have BN := BB.trans (hbq.mono BB.size)
  clear HH BB PC
  have HH := HN
  have BB := BN
  clear HN BN hbq
  have PC := Lib.hid (slPosition_any HH.out 5 (by rfl))
  unfold RetInt at PC
  rw [show posL [(7, [97]), (5, [98]), (6, [98])] 5 = 1 from rfl] at PC
  try dsimp only [List.length_cons, List.length_nil, Nat.reduceAdd, Option.getD_some, Option.isSome_some] at PC
  go_wp2_with fail
  with_reducible refine PC.out.mono ?_
  rintro e W11 ⟨rfl, hbq⟩
  have NPT := PT.below hbq
  clear PT
  have PT := NPT
  clear NPT
  have NPI := PI.below hbq
  clear PI
  have PI := NPI
  clear NPI
  have HN := Lib.hid (HH.out.below hbq)
  have BN := BB.trans (hbq.mono BB.size)
  clear HH BB PC
  have HH := HN
  have BB := BN
  clear HN BN hbq
  have hbr : Below W11.heap.size W11 (W11.alloc (.cells #[.int .i64 98] 3)) := (Below.refl _ _).alloc (Nat.le_refl _) _
  have PC := Lib.hid (slLookup_own (HH.out.al 98) (some ⟨W11.heap.size, 0, none⟩) 1 [98] (HH.out.row1 98).1 (by simp) (fun z hz => by simp at hz; subst hz; rfl))
  unfold RetOwnI at PC
  rw [show kyN nil0 letC opt3 = kyA from rfl, al_l3.1, show idsL [((5 : Int), [(98 : Int)]), (6, [98])] = [5, 6] from rfl] at PC
  try dsimp only [List.length_cons, List.length_nil, Nat.reduceAdd, Option.getD_some, Option.isSome_some] at PC
  go_wp2_with fail
  with_reducible refine PC.out.mono ?_
  rintro e W12 ⟨AS, ks, rfl, hT, hbw⟩
  have PS := (HH.out.al 98).fresh (Sl.of_own hT : Ints _ AS [5, 6]) (fun q hq => (own_blk hT hq).1)
  have hbq := hbr.trans (hbw.mono hbr.size)
  clear hT hbw hbr
  have NPT := PT.below hbq
  clear PT
  have PT := NPT
  clear NPT
  have NPI := PI.below hbq
  clear PI
  have PI := NPI
  clear NPI
  have HN := Lib.hid (HH.out.below hbq)
  have BN := BB.trans (hbq.mono BB.size)
  clear HH BB PC
  have HH := HN
  have BB := BN
  clear HN BN hbq
  have hbr : Below W12.heap.size W12 ((W12.alloc (.cells #[.int .i64 97] 3)).alloc (.cells #[.int .i64 98] 3)) := ((Below.refl _ _).alloc (Nat.le_refl _) _).alloc (by simp) _
  have PC := Lib.hid (slBetween_own ((HH.out.al 97).al 98) (some ⟨W12.heap.size, 0, none⟩) 1 [97] (some ⟨(W12.alloc (.cells #[.int .i64 97] 3)).heap.size, 0, none⟩) 1 [98] ((HH.out.row1 97).1.below ((Below.refl _ _).alloc (Nat.le_refl _) _)) ((HH.out.al 97).row1 98).1 (by simp) (by simp) (fun z hz => by simp at hz; subst hz; rfl) (fun z hz => by simp at hz; subst hz; rfl))
  rw [show kyN nil0 letC opt3 = kyA from rfl, al_l3.2, show idsL [((7 : Int), [(97 : Int)])] = [7] from rfl] at PC
  rw [show (W12.alloc (.cells #[.int .i64 97] 3)).heap.size = W12.heap.size + 1 by simp] at PC
  try dsimp only [List.length_cons, List.length_nil, Nat.reduceAdd, Option.getD_some, Option.isSome_some] at PC
  go_wp2_with fail
  with_reducible refine PC.out.mono ?_
  rintro e W13 ⟨AB, kb, rfl, hT, hf, hbw⟩
  have PB := ((HH.out.al 97).al 98).fresh hT hf
  have hbq := hbr.trans (hbw.mono hbr.size)
  clear hT hf hbw hbr
  have NPT := PT.below hbq
  clear PT
  have PT := NPT
  clear NPT
  have NPI := PI.below hbq
  clear PI
  have PI := NPI
  clear NPI
  have NPS := PS.below hbq
  clear PS
  have PS := NPS
  clear NPS
  have HN := Lib.hid (HH.out.below hbq)
  have BN := BB.trans (hbq.mono BB.size)
  clear HH BB PC
  have HH := HN
  have BB := BN
  clear HN BN hbq
  have PC := Lib.hid (slRemove_any HH.out 6 (by rfl))
  rw [show decide ((6 : Int) ∈ idsL [(7, [97]), (5, [98]), (6, [98])]) = true by decide, al_r4.1] at PC
  unfold RetL at PC
  go_wp2_with fail
  with_reducible refine PC.out.mono ?_
  rintro e W14 ⟨rfl, OW14, ocW14, fW14, hl, hc, hO⟩
  have NPT := PT.to hc (lf_new hO)
  clear PT
  have PT := NPT
  clear NPT
  have NPI := PI.to hc (lf_new hO)
  clear PI
  have PI := NPI
  clear NPI
  have NPS := PS.to hc (lf_new hO)
  clear PS
  have PS := NPS
  clear NPS
  have NPB := PB.to hc (lf_new hO)
  clear PB
  have PB := NPB
  clear NPB
  have BN := chg_below BB BB.size hc hbs HLF.out
  clear HLF BB HH PC
  have HH := Lib.hid hl
  have HLF := Lib.hid hl.lf
  have BB := BN
  clear BN hl hc hO
  have PC := Lib.hid (slRemove_any HH.out 6 (by rfl))
  rw [show decide ((6 : Int) ∈ idsL [(7, [97]), (5, [98])]) = false by decide, al_r4.2] at PC
  unfold RetL at PC
  go_wp2_with fail
  with_reducible refine PC.out.mono ?_
  rintro e W15 ⟨rfl, OW15, ocW15, fW15, hl, hc, hO⟩
  have NPT := PT.to hc (lf_new hO)
  clear PT
  have PT := NPT
  clear NPT
  have NPI := PI.to hc (lf_new hO)
  clear PI
  have PI := NPI
  clear NPI
  have NPS := PS.to hc (lf_new hO)
  clear PS
  have PS := NPS
  clear NPS
  have NPB := PB.to hc (lf_new hO)
  clear PB
  have PB := NPB
  clear NPB
  have BN := chg_below BB BB.size hc hbs HLF.out
  clear HLF BB HH PC
  have HH := Lib.hid hl
  have HLF := Lib.hid hl.lf
  have BB := BN
  clear BN hl hc hO
  have PC := Lib.hid (fun W => nilPut_any 1 none 0 0 W)
  go_wp2_with fail
  with_reducible refine (PC.out _).mono ?_
  rintro e Wz ⟨rfl, rfl⟩
  clear PC
  have hbr : Below W15.heap.size W15 (W15.alloc (.cells #[.int .i64 97] 3)) := (Below.refl _ _).alloc (Nat.le_refl _) _
  have PC := Lib.hid (Equal_any AT (some ⟨W15.heap.size, 0, none⟩) 1 1 kt 1 [97] [97] (W15.alloc (.cells #[.int .i64 97] 3)) (PT.1.below hbr) (Ints_new W15 [97] 3 rfl) rfl rfl (by omega) (by omega))
  rw [show decide ([97] = ([97] : List Int)) = true from rfl] at PC
  clear PT
  go_wp2_with fail
  with_reducible refine PC.out.mono ?_
  rintro e W16 ⟨rfl, hq⟩
  have hbq := hbr.trans (hq.below.mono hbr.size)
  clear hq hbr
  have NPI := PI.below hbq
  clear PI
  have PI := NPI
  clear NPI
  have NPS := PS.below hbq
  clear PS
  have PS := NPS
  clear NPS
  have NPB := PB.below hbq
  clear PB
  have PB := NPB
  clear NPB
  have HN := Lib.hid (HH.out.below hbq)
  have BN := BB.trans (hbq.mono BB.size)
  clear HH BB PC
  have HH := HN
  have BB := BN
  clear HN BN hbq
  have hbr : Below W16.heap.size W16 (W16.alloc (.cells #[.int .i64 7, .int .i64 5, .int .i64 6] 3)) := (Below.refl _ _).alloc (Nat.le_refl _) _
  have PC := Lib.hid (Equal_any AI (some ⟨W16.heap.size, 0, none⟩) 3 3 ki 3 [7, 5, 6] [7, 5, 6] (W16.alloc (.cells #[.int .i64 7, .int .i64 5, .int .i64 6] 3)) (PI.1.below hbr) (Ints_new W16 [7, 5, 6] 3 rfl) rfl rfl (by omega) (by omega))
  rw [show decide ([7, 5, 6] = ([7, 5, 6] : List Int)) = true from rfl] at PC
  clear PI
  go_wp2_with fail
  with_reducible refine PC.out.mono ?_
  rintro e W17 ⟨rfl, hq⟩
  have hbq := hbr.trans (hq.below.mono hbr.size)
  clear hq hbr
  have NPS := PS.below hbq
  clear PS
  have PS := NPS
  clear NPS
  have NPB := PB.below hbq
  clear PB
  have PB := NPB
  clear NPB
  have HN := Lib.hid (HH.out.below hbq)
  have BN := BB.trans (hbq.mono BB.size)
  clear HH BB PC
  have HH := HN
  have BB := BN
  clear HN BN hbq
  have hbr : Below W17.heap.size W17 (W17.alloc (.cells #[.int .i64 5, .int .i64 6] 3)) := (Below.refl _ _).alloc (Nat.le_refl _) _
  have PC := Lib.hid (Equal_any AS (some ⟨W17.heap.size, 0, none⟩) 2 2 ks 2 [5, 6] [5, 6] (W17.alloc (.cells #[.int .i64 5, .int .i64 6] 3)) (PS.1.below hbr) (Ints_new W17 [5, 6] 3 rfl) rfl rfl (by omega) (by omega))
  rw [show decide ([5, 6] = ([5, 6] : List Int)) = true from rfl] at PC
  clear PS
  go_wp2_with fail
  with_reducible refine PC.out.mono ?_
  rintro e W18 ⟨rfl, hq⟩
  have hbq := hbr.trans (hq.below.mono hbr.size)
  clear hq hbr
  have NPB := PB.below hbq
  clear PB
  have PB := NPB
  clear NPB
  have HN := Lib.hid (HH.out.below hbq)
  have BN := BB.trans (hbq.mono BB.size)
  clear HH BB PC
  have HH := HN
  have BB := BN
  clear HN BN hbq
  have hbr : Below W18.heap.size W18 (W18.alloc (.cells #[.int .i64 7] 3)) := (Below.refl _ _).alloc (Nat.le_refl _) _
  have PC := Lib.hid (Equal_any AB (some ⟨W18.heap.size, 0, none⟩) 1 1 kb 1 [7] [7] (W18.alloc (.cells #[.int .i64 7] 3)) (PB.1.below hbr) (Ints_new W18 [7] 3 rfl) rfl rfl (by omega) (by omega))
  rw [show decide ([7] = ([7] : List Int)) = true from rfl] at PC
  clear PB
  go_wp2_with fail
  with_reducible refine PC.out.mono ?_
  rintro e W19 ⟨rfl, hq⟩
  have hbq := hbr.trans (hq.below.mono hbr.size)
  clear hq hbr
  have HN := Lib.hid (HH.out.below hbq)
  have BN := BB.trans (hbq.mono BB.size)
  clear HH BB PC
  have HH := HN
  have BB := BN
  clear HN BN hbq
  have PC := Lib.hid (slPosition_any HH.out 6 (by rfl))
  unfold RetInt at PC
  rw [show posL [(7, [97]), (5, [98])] 6 = -1 from rfl] at PC
  try dsimp only [List.length_cons, List.length_nil, Nat.reduceAdd, Option.getD_some, Option.isSome_some] at PC
  go_wp2_with fail
  with_reducible refine PC.out.mono ?_
  rintro e W20 ⟨rfl, hbq⟩
  have HN := Lib.hid (HH.out.below hbq)
  have BN := BB.trans (hbq.mono BB.size)
  clear HH BB PC
  have HH := HN
  have BB := BN
  clear HN BN hbq
  have PC := Lib.hid (fun W => nilRemove_any 1 W)
  go_wp2_with fail
  with_reducible refine (PC.out _).mono ?_
  rintro e Wz ⟨rfl, rfl⟩
  clear PC
  have PC := Lib.hid (fun W => nilPosition_any 1 W)
  go_wp2_with fail
  with_reducible refine (PC.out _).mono ?_
  rintro e Wz ⟨rfl, rfl⟩
  clear PC
  go_wp2_with fail
  go_ret
  exact ⟨rfl, BB⟩
end Go.Proofs.YtpfbnikbebccjaaGreatDoor

/- The zero list; the walk of the law SortlistNobody. Written by gen_slnob.py. -/
namespace Go.Proofs.YtpfbnikbebccjaaGreatDoor
open Go.RowKit Go.Maps Go.WideMaps Srl
theorem nil_look (id : Int) (W : World) : (Instr.lookup 78 (.map none) (.int .i64 id) true).run Tryz.prog W = .ok (.tuple #[.agg #[.slice none 0 0, .slice none 0 0], .bool false]) W := by kernel_rfl

theorem zPut_any (b : Nat) (id : Int) (A : Option Addr) (n k : Nat) (w : World) (hB : Box w b 80 [.slice none 0 0, .slice none 0 0, .slice none 0 0, .slice none 0 0, .slice none 0 0, .int .i64 0, .int .i64 0, .int .i64 0, .int .i64 0, .int .i64 0, .bool false, .bool false, .map none, .slice none 0 0]) : Calls Tryz.prog 16 #[.pointer (some ⟨b, 0, none⟩), .int .i64 id, .slice A n k] w (fun e w' => e = .returned (.tuple #[.int .i64 0, .int .i64 16]) ∧ w = w') := by
  have c12 := hB.cell (i := 12) rfl
  have c13 := hB.cell (i := 13) rfl
  have NM : ∀ W, (binOp .eql 78 (.map none) (.map none)).run Tryz.prog W = .ok (.bool true) W := fun W => by kernel_rfl
  clear hB
  go_enter Tryz.func16, Tryz.ntmps16
  go_wp2_with fail
  go_ret2
  exact ⟨rfl, rfl⟩

theorem zLookup_any (b : Nat) (A : Option Addr) (n k : Nat) (w : World) (hB : Box w b 80 [.slice none 0 0, .slice none 0 0, .slice none 0 0, .slice none 0 0, .slice none 0 0, .int .i64 0, .int .i64 0, .int .i64 0, .int .i64 0, .int .i64 0, .bool false, .bool false, .map none, .slice none 0 0]) : Calls Tryz.prog 24 #[.pointer (some ⟨b, 0, none⟩), .slice A n k] w (fun e w' => e = .returned (.slice none 0 0) ∧ w = w') := by
  have c12 := hB.cell (i := 12) rfl
  have c13 := hB.cell (i := 13) rfl
  have NM : ∀ W, (binOp .eql 78 (.map none) (.map none)).run Tryz.prog W = .ok (.bool true) W := fun W => by kernel_rfl
  clear hB
  go_enter Tryz.func24, Tryz.ntmps24
  go_wp2_with fail
  go_ret
  exact ⟨rfl, rfl⟩

theorem zBetween_any (b : Nat) (A : Option Addr) (n k : Nat) (B : Option Addr) (m j : Nat) (w : World) (hB : Box w b 80 [.slice none 0 0, .slice none 0 0, .slice none 0 0, .slice none 0 0, .slice none 0 0, .int .i64 0, .int .i64 0, .int .i64 0, .int .i64 0, .int .i64 0, .bool false, .bool false, .map none, .slice none 0 0]) : Calls Tryz.prog 26 #[.pointer (some ⟨b, 0, none⟩), .slice A n k, .slice B m j] w (fun e w' => e = .returned (.slice none 0 0) ∧ w = w') := by
  have c12 := hB.cell (i := 12) rfl
  have c13 := hB.cell (i := 13) rfl
  have NM : ∀ W, (binOp .eql 78 (.map none) (.map none)).run Tryz.prog W = .ok (.bool true) W := fun W => by kernel_rfl
  clear hB
  go_enter Tryz.func26, Tryz.ntmps26
  go_wp2_with fail
  go_ret
  exact ⟨rfl, rfl⟩

theorem zPosition_any (b : Nat) (id : Int) (w : World) (hB : Box w b 80 [.slice none 0 0, .slice none 0 0, .slice none 0 0, .slice none 0 0, .slice none 0 0, .int .i64 0, .int .i64 0, .int .i64 0, .int .i64 0, .int .i64 0, .bool false, .bool false, .map none, .slice none 0 0]) : Calls Tryz.prog 22 #[.pointer (some ⟨b, 0, none⟩), .int .i64 id] w (fun e w' => e = .returned (.int .i64 (-1)) ∧ Below w.heap.size w w') := by
  have c12 := hB.cell (i := 12) rfl
  have c13 := hB.cell (i := 13) rfl
  have NM : ∀ W, (binOp .eql 78 (.map none) (.map none)).run Tryz.prog W = .ok (.bool true) W := fun W => by kernel_rfl
  have LN : ∀ W, (Instr.lookup 78 (.map none) (.int .i64 id) true).run Tryz.prog W = .ok (.tuple #[.agg #[.slice none 0 0, .slice none 0 0], .bool false]) W := fun W => nil_look id W
  clear hB
  go_enter Tryz.func22, Tryz.ntmps22
  have B0 : Below w.heap.size w (w.alloc (.cells #[.slice none 0 0, .slice none 0 0] 97)) := (Below.refl _ _).alloc (Nat.le_refl _) _
  go_wp2_with fail
  go_ret
  exact ⟨rfl, B0⟩

theorem zRemove_any (b : Nat) (id : Int) (w : World) (hB : Box w b 80 [.slice none 0 0, .slice none 0 0, .slice none 0 0, .slice none 0 0, .slice none 0 0, .int .i64 0, .int .i64 0, .int .i64 0, .int .i64 0, .int .i64 0, .bool false, .bool false, .map none, .slice none 0 0]) : Calls Tryz.prog 14 #[.pointer (some ⟨b, 0, none⟩), .int .i64 id] w (fun e w' => e = .returned (.bool false) ∧ Below w.heap.size w w') := by
  have c12 := hB.cell (i := 12) rfl
  have c13 := hB.cell (i := 13) rfl
  have NM : ∀ W, (binOp .eql 78 (.map none) (.map none)).run Tryz.prog W = .ok (.bool true) W := fun W => by kernel_rfl
  have PC := Lib.hid (zPosition_any b id w hB)
  clear hB
  go_enter Tryz.func14, Tryz.ntmps14
  go_wp2_with fail
  with_reducible refine PC.out.mono ?_
  rintro e W1 ⟨rfl, hb1⟩
  go_wp2_with fail
  go_ret
  exact ⟨rfl, hb1⟩

theorem zGet_any (b : Nat) (id : Int) (w : World) (hB : Box w b 80 [.slice none 0 0, .slice none 0 0, .slice none 0 0, .slice none 0 0, .slice none 0 0, .int .i64 0, .int .i64 0, .int .i64 0, .int .i64 0, .int .i64 0, .bool false, .bool false, .map none, .slice none 0 0]) : Calls Tryz.prog 17 #[.pointer (some ⟨b, 0, none⟩), .int .i64 id] w (fun e w' => ∃ A k, e = .returned (.tuple #[.slice A 0 k, .bool false]) ∧ Below w.heap.size w w') := by
  have c12 := hB.cell (i := 12) rfl
  have c13 := hB.cell (i := 13) rfl
  have NM : ∀ W, (binOp .eql 78 (.map none) (.map none)).run Tryz.prog W = .ok (.bool true) W := fun W => by kernel_rfl
  have LN : ∀ W, (Instr.lookup 78 (.map none) (.int .i64 id) true).run Tryz.prog W = .ok (.tuple #[.agg #[.slice none 0 0, .slice none 0 0], .bool false]) W := fun W => nil_look id W
  clear hB
  go_enter Tryz.func17, Tryz.ntmps17
  have B0 : Below w.heap.size w (w.alloc (.cells #[.slice none 0 0, .slice none 0 0] 97)) := (Below.refl _ _).alloc (Nat.le_refl _) _
  have PC := Lib.hid (fun W => cloneI_any none 0 0 [] W (Sl.nil _ _) rfl (by omega))
  unfold RetOwnI at PC
  dsimp only [List.length_nil] at PC
  go_wp2_with fail
  with_reducible refine (PC.out _).mono ?_
  rintro e W1 ⟨A, k, rfl, _, hb1⟩
  go_wp2_with fail
  go_ret2
  exact ⟨A, k, rfl, B0.trans (hb1.mono B0.size)⟩

theorem zItems_any (b : Nat)  (w : World) (hB : Box w b 80 [.slice none 0 0, .slice none 0 0, .slice none 0 0, .slice none 0 0, .slice none 0 0, .int .i64 0, .int .i64 0, .int .i64 0, .int .i64 0, .int .i64 0, .bool false, .bool false, .map none, .slice none 0 0]) : Calls Tryz.prog 20 #[.pointer (some ⟨b, 0, none⟩)] w (fun e w' => ∃ A k, e = .returned (.slice A 0 k) ∧ Below w.heap.size w w') := by
  have c12 := hB.cell (i := 12) rfl
  have c13 := hB.cell (i := 13) rfl
  have NM : ∀ W, (binOp .eql 78 (.map none) (.map none)).run Tryz.prog W = .ok (.bool true) W := fun W => by kernel_rfl
  clear hB
  go_enter Tryz.func20, Tryz.ntmps20
  have PC := Lib.hid (fun W => cloneI_any none 0 0 [] W (Sl.nil _ _) rfl (by omega))
  unfold RetOwnI at PC
  dsimp only [List.length_nil] at PC
  go_wp2_with fail
  with_reducible refine (PC.out _).mono ?_
  rintro e W1 ⟨A, k, rfl, _, hb1⟩
  go_wp2_with fail
  go_ret
  exact ⟨A, k, rfl, hb1⟩

set_option maxRecDepth 100000 in
set_option maxHeartbeats 12800000 in
theorem SortlistNobody_any (id : Int) (A : Option Addr) (n a : Nat) (t : List Int) (w : World) (hn : t.length = n) (hL : Laid w) :
    Calls Tryz.prog 7 #[.int .i64 id, .slice A n a] w (RetTrue w) := by
  subst hn
  have B0 : Below w.heap.size w ((w.alloc (.cells #[.slice none 0 0, .slice none 0 0, .slice none 0 0, .slice none 0 0, .slice none 0 0, .int .i64 0, .int .i64 0, .int .i64 0, .int .i64 0, .int .i64 0, .bool false, .bool false, .map none, .slice none 0 0] 80)).alloc (.cells #[.pointer none, .pointer (some ⟨w.heap.size, 0, none⟩)] 40)) := ((Below.refl _ _).alloc (Nat.le_refl _) _).alloc (by simp) _
  have X0 : Box ((w.alloc (.cells #[.slice none 0 0, .slice none 0 0, .slice none 0 0, .slice none 0 0, .slice none 0 0, .int .i64 0, .int .i64 0, .int .i64 0, .int .i64 0, .int .i64 0, .bool false, .bool false, .map none, .slice none 0 0] 80)).alloc (.cells #[.pointer none, .pointer (some ⟨w.heap.size, 0, none⟩)] 40)) w.heap.size 80 [.slice none 0 0, .slice none 0 0, .slice none 0 0, .slice none 0 0, .slice none 0 0, .int .i64 0, .int .i64 0, .int .i64 0, .int .i64 0, .int .i64 0, .bool false, .bool false, .map none, .slice none 0 0] := bx_alloc (Box.new w 80 [.slice none 0 0, .slice none 0 0, .slice none 0 0, .slice none 0 0, .slice none 0 0, .int .i64 0, .int .i64 0, .int .i64 0, .int .i64 0, .int .i64 0, .bool false, .bool false, .map none, .slice none 0 0] rfl) _
  have R0 : Box ((w.alloc (.cells #[.slice none 0 0, .slice none 0 0, .slice none 0 0, .slice none 0 0, .slice none 0 0, .int .i64 0, .int .i64 0, .int .i64 0, .int .i64 0, .int .i64 0, .bool false, .bool false, .map none, .slice none 0 0] 80)).alloc (.cells #[.pointer none, .pointer (some ⟨w.heap.size, 0, none⟩)] 40)) (w.heap.size + 1) 40 [.pointer none, .pointer (some ⟨w.heap.size, 0, none⟩)] := Box.new _ _ _ (by simp)
  have W0E : ∃ W0, ((w.alloc (.cells #[.slice none 0 0, .slice none 0 0, .slice none 0 0, .slice none 0 0, .slice none 0 0, .int .i64 0, .int .i64 0, .int .i64 0, .int .i64 0, .int .i64 0, .bool false, .bool false, .map none, .slice none 0 0] 80)).alloc (.cells #[.pointer none, .pointer (some ⟨w.heap.size, 0, none⟩)] 40)) = W0 := ⟨_, rfl⟩
  have KA := Lib.hid (fun W (hb : Below w.heap.size w W) => alive_any W (hL.below hb))
  have KF := Lib.hid (fun W => few01_any A t.length a 40 W)
  have N1 := Lib.hid (fun W => nilPut_any id A t.length a W)
  have N2 := Lib.hid (fun W => nilGet_any id W)
  have N3 := Lib.hid (fun W => nilItems_any W)
  have N4 := Lib.hid (fun W => nilLookup_any A t.length a W)
  have N5 := Lib.hid (fun W => nilBetween_any none 0 0 A t.length a W)
  have N6 := Lib.hid (fun W => nilRemove_any id W)
  have N7 := Lib.hid (fun W => nilPosition_any id W)
  have Z1 := Lib.hid (fun b W h => zPut_any b id A t.length a W h)
  have Z2 := Lib.hid (fun b W h => zGet_any b id W h)
  have Z3 := Lib.hid (fun b W h => zItems_any b W h)
  have Z4 := Lib.hid (fun b W h => zLookup_any b A t.length a W h)
  have Z5 := Lib.hid (fun b W h => zBetween_any b none 0 0 A t.length a W h)
  have Z6 := Lib.hid (fun b W h => zRemove_any b id W h)
  have Z7 := Lib.hid (fun b W h => zPosition_any b id W h)
  unfold RetTrue at KA
  clear hL
  go_enter Tryz.func7, Tryz.ntmps7
  go_wp2_with fail
  with_reducible refine (KF.out _).mono ?_
  rintro e W1 ⟨rfl, rfl⟩
  by_cases h40 : t.length ≤ 40
  rotate_left
  · have d40 : decide ((t.length : Int) ≤ 40) = false := by simp; omega
    go_wp2_with fail
    with_reducible refine (KA.out _ (Below.refl _ _)).mono ?_
    rintro e W9 ⟨rfl, hb9⟩
    go_wp2_with fail
    go_ret
    exact ⟨rfl, hb9⟩
  have d40 : decide ((t.length : Int) ≤ 40) = true := by simp; omega
  go_wp2_with fail
  obtain ⟨W0, hW0⟩ := W0E
  try rw [hW0] at B0 X0 R0 ⊢
  clear hW0
  have HX := Lib.hid X0
  have HR := Lib.hid R0
  clear X0 R0 KF
  go_loopw [21] (fun u wr => ∃ i : Nat, i ≤ 2 ∧ u = .int .i64 i ∧ Below W0.heap.size W0 wr) (fun u _ => 2 - (intOf u).toNat)
  case atStart => exact ⟨0, by omega, rfl, Below.refl _ _⟩
  case round =>
    obtain ⟨i, hi, rfl, hbr⟩ := hrel
    have Xr := HX.out.below hbr HX.out.lt
    have Rr := HR.out.below hbr HR.out.lt
    rcases Nat.lt_or_ge i 1 with h0 | h0
    · obtain rfl : i = 0 := by omega
      have r0 := Rr.cell (i := 0) rfl
      clear Xr Rr
      go_wp2_with fail
      with_reducible refine (N1.out _).mono ?_
      rintro e Wz ⟨rfl, rfl⟩
      go_wp2_with fail
      with_reducible refine (N2.out _).mono ?_
      rintro e Wz ⟨rfl, rfl⟩
      go_wp2_with fail
      with_reducible refine (N3.out _).mono ?_
      rintro e Wz ⟨rfl, rfl⟩
      go_wp2_with fail
      with_reducible refine (N4.out _).mono ?_
      rintro e Wz ⟨rfl, rfl⟩
      go_wp2_with fail
      with_reducible refine (N5.out _).mono ?_
      rintro e Wz ⟨rfl, rfl⟩
      go_wp2_with fail
      with_reducible refine (N6.out _).mono ?_
      rintro e Wz ⟨rfl, rfl⟩
      go_wp2_with fail
      with_reducible refine (N7.out _).mono ?_
      rintro e Wz ⟨rfl, rfl⟩
      have HB := Lib.hid hbr
      clear hbr
      go_wp2_with fail
      go_roundw
      case rel => exact ⟨1, by omega, by go_num, HB.out⟩
      case measure => simp [intOf]
    · rcases Nat.lt_or_ge i 2 with h1 | h1
      · obtain rfl : i = 1 := by omega
        have r1 := Rr.cell (i := 1) rfl
        have HXr := Lib.hid Xr
        clear Xr Rr
        have hbz := hbr
        clear hbr
        go_wp2_with fail
        with_reducible refine (Z1.out _ _ HXr.out).mono ?_
        rintro e Wz ⟨rfl, rfl⟩
        go_wp2_with fail
        with_reducible refine (Z2.out _ _ HXr.out).mono ?_
        rintro e Y2 ⟨A2, k2, rfl, hbq⟩
        have HXn := Lib.hid (HXr.out.below hbq HXr.out.lt)
        have hbn := hbz.trans (hbq.mono hbz.size)
        clear HXr hbz hbq
        have HXr := HXn
        have hbz := hbn
        clear HXn hbn
        go_wp2_with fail
        with_reducible refine (Z3.out _ _ HXr.out).mono ?_
        rintro e Y3 ⟨A3, k3, rfl, hbq⟩
        have HXn := Lib.hid (HXr.out.below hbq HXr.out.lt)
        have hbn := hbz.trans (hbq.mono hbz.size)
        clear HXr hbz hbq
        have HXr := HXn
        have hbz := hbn
        clear HXn hbn
        go_wp2_with fail
        with_reducible refine (Z4.out _ _ HXr.out).mono ?_
        rintro e Wz ⟨rfl, rfl⟩
        go_wp2_with fail
        with_reducible refine (Z5.out _ _ HXr.out).mono ?_
        rintro e Wz ⟨rfl, rfl⟩
        go_wp2_with fail
        with_reducible refine (Z6.out _ _ HXr.out).mono ?_
        rintro e Y6 ⟨rfl, hbq⟩
        have HXn := Lib.hid (HXr.out.below hbq HXr.out.lt)
        have hbn := hbz.trans (hbq.mono hbz.size)
        clear HXr hbz hbq
        have HXr := HXn
        have hbz := hbn
        clear HXn hbn
        go_wp2_with fail
        with_reducible refine (Z7.out _ _ HXr.out).mono ?_
        rintro e Y7 ⟨rfl, hbq⟩
        have HXn := Lib.hid (HXr.out.below hbq HXr.out.lt)
        have hbn := hbz.trans (hbq.mono hbz.size)
        clear HXr hbz hbq
        have HXr := HXn
        have hbz := hbn
        clear HXn hbn
        have HB := Lib.hid hbz
        clear hbz
        go_wp2_with fail
        go_roundw
        case rel => exact ⟨2, by omega, by go_num, HB.out⟩
        case measure => simp [intOf]
      · obtain rfl : i = 2 := by omega
        clear Xr Rr
        go_wp2_with fail
        with_reducible refine (KA.out _ (B0.trans (hbr.mono B0.size))).mono ?_
        rintro e W9 ⟨rfl, hb9⟩
        have hbf := B0.trans ((hbr.trans (hb9.mono hbr.size)).mono B0.size)
        go_wp2_with fail
        go_ret
        exact ⟨rfl, hbf⟩
end Go.Proofs.YtpfbnikbebccjaaGreatDoor

/- Put at its limits; the walk of the law SortlistFull. Written by gen_slfull.py. -/
namespace Go.Proofs.YtpfbnikbebccjaaGreatDoor
open Go.RowKit Go.Maps Go.WideMaps Srl

set_option maxRecDepth 100000 in
set_option maxHeartbeats 12800000 in
theorem slPut_no {w : World} {l bs : Nat} {V : LsV} {mb : Nat} {O : Option Addr} {oc cnt : Nat} {x : Nrm} {c : Col} {o : Opt} {f : Int → Option Value} {L : Its} (h : Lst w l bs V mb O oc cnt x c o f L) (id : Int) (hid : iok id) (D : Option Addr) (n dk : Nat) (hfull : 1000 < n ∨ (99 < L.length ∧ id ∉ idsL L)) (hn : n ≤ 1000000) :
    Calls Tryz.prog 16 #[.pointer (some ⟨l, 0, none⟩), .int .i64 id, .slice D n dk] w (fun e w' => e = .returned (.tuple #[.int .i64 0, .int .i64 2]) ∧ Below w.heap.size w w') := by
  have HID := Lib.hid hid
  have hL100 := h.len
  have HM := Lib.hid h.map
  have X0 := h.box
  unfold lsC at X0
  have c12 := X0.cell (i := 12) rfl
  have NM : ∀ W, (binOp .eql 78 (.map (some mb)) (.map none)).run Tryz.prog W = .ok (.bool false) W := eql_map mb
  by_cases hbig : 1000 < n
  · have d1 : decide ((1000 : Int) < (n : Int)) = true := by simp; omega
    by_cases hin : id ∈ idsL L
    · obtain ⟨p, hp, hpe⟩ := List.mem_map.1 hin
      obtain ⟨T0, tk0, K0, kk0, hf, _, _⟩ := h.item p hp
      rw [hpe] at hf
      have HF := Lib.hid hf
      have B0 : Below w.heap.size w (w.alloc (.cells #[.slice T0 p.2.length tk0, .slice K0 (kyN x c o p.2).length kk0] 97)) := (Below.refl _ _).alloc (Nat.le_refl _) _
      clear h hin hp hpe hf X0 hid hfull
      go_enter Tryz.func16, Tryz.ntmps16
      go_wp2_with (first | (refine wpList_clen rfl _ 78 rfl HM.out Tryz.underlying78 rfl ?_) | (at_lookup; refine wpList_lookOk rfl _ _ 78 rfl HM.out.is law_int Tryz.underlying78 (zero_item _) rfl rfl HID.out (key_int HID.out) ?_; rw [HF.out]; first | rw [Option.getD_some, Option.isSome_some] | rw [Option.getD_none, Option.isSome_none]))
      go_ret2
      exact ⟨rfl, B0⟩
    · have HF := Lib.hid (h.gone id hid hin)
      have B0 : Below w.heap.size w (w.alloc (.cells #[.slice none 0 0, .slice none 0 0] 97)) := (Below.refl _ _).alloc (Nat.le_refl _) _
      clear h hin X0 hid hfull
      go_enter Tryz.func16, Tryz.ntmps16
      go_wp2_with (first | (refine wpList_clen rfl _ 78 rfl HM.out Tryz.underlying78 rfl ?_) | (at_lookup; refine wpList_lookOk rfl _ _ 78 rfl HM.out.is law_int Tryz.underlying78 (zero_item _) rfl rfl HID.out (key_int HID.out) ?_; rw [HF.out]; first | rw [Option.getD_some, Option.isSome_some] | rw [Option.getD_none, Option.isSome_none]))
      go_ret2
      exact ⟨rfl, B0⟩
  · have hf2 : 99 < L.length ∧ id ∉ idsL L := by
      rcases hfull with g | g
      · exact absurd g hbig
      · exact g
    have hf3 := hf2.1
    have HF := Lib.hid (h.gone id hid hf2.2)
    have B0 : Below w.heap.size w (w.alloc (.cells #[.slice none 0 0, .slice none 0 0] 97)) := (Below.refl _ _).alloc (Nat.le_refl _) _
    have d1 : decide ((1000 : Int) < (n : Int)) = false := by simp; omega
    have d2 : decide ((99 : Int) < (L.length : Int)) = true := by simp; omega
    clear h hf2 X0 hid hfull
    go_enter Tryz.func16, Tryz.ntmps16
    go_wp2_with (first | (refine wpList_clen rfl _ 78 rfl HM.out Tryz.underlying78 rfl ?_) | (at_lookup; refine wpList_lookOk rfl _ _ 78 rfl HM.out.is law_int Tryz.underlying78 (zero_item _) rfl rfl HID.out (key_int HID.out) ?_; rw [HF.out]; first | rw [Option.getD_some, Option.isSome_some] | rw [Option.getD_none, Option.isSome_none]))
    go_ret2
    exact ⟨rfl, B0⟩

abbrev opt1 : Opt := ⟨1, 1, false, false⟩
theorem fu_ok : newErr nil0 letC opt1 = 0 := by decide +kernel
/-- a list of asq many items asq there are numbers below n -/
structure Upto (L : Its) (n : Nat) : Prop where
  len : L.length = n
  lt : ∀ z ∈ idsL L, 0 ≤ z ∧ z < (n : Int)
  all : ∀ z : Int, 0 ≤ z → z < (n : Int) → z ∈ idsL L
theorem idsL_put {K : List Int → List Int} {L : Its} {id : Int} {t : List Int} {z : Int} : z ∈ idsL (putL K L id t) ↔ z = id ∨ (z ∈ idsL L ∧ z ≠ id) := by
  constructor
  · intro h
    obtain ⟨p, hp, rfl⟩ := List.mem_map.1 h
    rcases putL_mem.1 hp with rfl | ⟨g1, g2⟩
    · exact .inl rfl
    · exact .inr ⟨List.mem_map_of_mem (f := Prod.fst) g1, g2⟩
  · rintro (rfl | ⟨h, g⟩)
    · exact List.mem_map_of_mem (f := Prod.fst) (putL_mem.2 (.inl rfl) : (z, t) ∈ _)
    · obtain ⟨p, hp, rfl⟩ := List.mem_map.1 h
      exact List.mem_map_of_mem (f := Prod.fst) (putL_mem.2 (.inr ⟨hp, g⟩))
theorem Upto.nil : Upto [] 0 := ⟨rfl, fun z hz => (by cases hz), fun z h1 h2 => by omega⟩
theorem Upto.new {K : List Int → List Int} {L : Its} {n : Nat} (h : Upto L n) (t : List Int) : Upto (putL K L n t) (n + 1) ∧ remL L n = L := by
  have hn : (n : Int) ∉ idsL L := fun hin => by have := (h.lt _ hin).2; omega
  have hr := remL_none hn
  refine ⟨⟨by rw [putL_len, hr, h.len], fun z hz => ?_, fun z h1 h2 => ?_⟩, hr⟩
  · rcases idsL_put.1 hz with rfl | ⟨g, _⟩
    · omega
    · have := h.lt z g; omega
  · refine idsL_put.2 ?_
    by_cases e : z = n
    · exact .inl e
    · exact .inr ⟨h.all z h1 (by omega), e⟩
theorem Upto.old {K : List Int → List Int} {L : Its} {n : Nat} (h : Upto L n) (hs : Srt K L) {z : Int} (h1 : 0 ≤ z) (h2 : z < (n : Int)) (t : List Int) : (putL K L z t).length = n ∧ (remL L z).length + 1 = n := by
  have := remL_len1 hs.one (h.all z h1 h2)
  have hl := h.len
  rw [putL_len]
  omega
theorem iok_small {z : Int} (h0 : 0 ≤ z) (h1 : z ≤ 1000) : iok z := by
  unfold iok
  simp [Lit.wf, IntKind.min, IntKind.max, IntKind.signed, IntKind.bits]
  omega
theorem iok_nat {i : Nat} (h : i < 100) : iok (i : Int) := iok_small (by omega) (by omega)
set_option maxRecDepth 100000 in
set_option maxHeartbeats 25600000 in
theorem SortlistFull_any (m : Int) (w : World) (hm : (Lit.int .u8 m).wf = true) (hL : Laid w) : Calls Tryz.prog 8 #[.int .u8 m] w (RetTrue w) := by
  have hm2 : 0 ≤ m ∧ m ≤ 255 := bounds_u8 hm
  have HLd := Lib.hid (fun W (hb : Below w.heap.size w W) => hL.below hb)
  have LT := Lib.hid (fun W => lettersL W)
  have NO := Lib.hid (fun A a B b W => newOk A a B b 1 W fu_ok)
  have KA := Lib.hid (fun W (hb : Below w.heap.size w W) => alive_any W (hL.below hb))
  unfold RetTrue at KA
  obtain ⟨hm0, hm1⟩ := hm2
  clear hL hm
  go_enter Tryz.func8, Tryz.ntmps8
  go_wp2_with fail
  with_reducible refine (LT.out w).mono ?_
  rintro e W1 ⟨A, a, B, b, rfl, hC, hb1⟩
  have C1 := Lib.hid (NO.out A a B b W1 hC (HLd.out W1 hb1))
  clear NO hC LT
  go_wp2_with fail
  with_reducible refine C1.out.mono ?_
  rintro e W2 ⟨l, V, mb, rfl, hl2, hb2⟩
  have H2 := Lib.hid hl2
  have hbs : w.heap.size ≤ W1.heap.size := hb1.size
  have B2 := hb1.trans (hb2.mono hb1.size)
  clear C1 hl2 hb1 hb2 HLd
  obtain ⟨Z, mk⟩ : ∃ Z : Array Value, ∀ W : World, (Instr.makeSlice 49 (.int .i64 1001) (.int .i64 1001)).run Tryz.prog W = .ok (.slice (some ⟨W.heap.size, 0, none⟩) 1001 1001) (W.alloc (.cells Z 3)) := ⟨_, fun W => mk_ints 1001 (by omega) W⟩
  have ba : Below W2.heap.size W2 (W2.alloc (.cells Z 3)) := (Below.refl _ _).alloc (Nat.le_refl _) _
  have H3 := Lib.hid (H2.out.below ba)
  have PC := Lib.hid (slPut_no H3.out 1 (by rfl) (some ⟨W2.heap.size, 0, none⟩) 1001 1001 (.inl (by omega)) (by omega))
  have B3 := B2.trans (ba.mono B2.size)
  clear ba B2 H2
  go_wp2_with fail
  with_reducible refine PC.out.mono ?_
  rintro e W4 ⟨rfl, hb4⟩
  have H4 := Lib.hid (H3.out.below hb4)
  have B4 := B3.trans (hb4.mono B3.size)
  clear PC hb4 B3 H3 mk
  go_wp2_with fail
  go_loopw [7] (fun u wr => ∃ (i : Nat) (O : Option Addr) (oc cnt : Nat) (f : Int → Option Value) (L : Its), i ≤ 100 ∧ u = .int .i64 i ∧ cnt ≤ i ∧ Lst wr l W1.heap.size V mb O oc cnt nil0 letC opt1 f L ∧ Upto L i ∧ Below w.heap.size w wr) (fun u _ => 100 - (intOf u).toNat)
  case atStart => exact ⟨0, none, 0, 0, _, [], by omega, rfl, Nat.le_refl _, H4.out, Upto.nil, B4⟩
  case round =>
    obtain ⟨i, O, oc, cnt, f, L, hi, rfl, hcn, hlst, hup, hbr⟩ := hrel
    have HR := Lib.hid hlst
    have HU := Lib.hid hup
    have hLi := hup.len
    clear hlst hup H4
    by_cases hlt : i < 100
    · have HN := Lib.hid (HU.out.new (K := kyN nil0 letC opt1) [97])
      have ba := hbr.alloc hbr.size (.cells #[.int .i64 97] 3)
      have PC := Lib.hid (slPut_any (HR.out.al 97) i (iok_nat hlt) (some ⟨wr.heap.size, 0, none⟩) 1 [97] (HR.out.row1 97) (by simp) (fun z hz => by simp at hz; subst hz; rfl) (by rw [HN.out.2]; omega) (by unfold maxLen; omega))
      have HLF := Lib.hid HR.out.lf
      unfold RetL at PC
      dsimp only [List.length_cons, List.length_nil, Nat.reduceAdd] at PC
      go_wp2_with fail
      with_reducible refine PC.out.mono ?_
      rintro e W5 ⟨rfl, O5, oc5, f5, hl5, hc5, hO5⟩
      have H5 := Lib.hid hl5
      have hbf := chg_below ba ba.size hc5 hbs HLF.out
      clear PC hl5 hc5 hO5 ba hbr hLi
      go_wp2_with fail
      go_roundw
      case rel => exact ⟨i + 1, O5, oc5, cnt + 1, f5, _, by omega, by go_num, by omega, H5.out, (HU.out.new [97]).1, hbf⟩
      case measure => simp [intOf]; omega
    · obtain rfl : i = 100 := by omega
      have ba := hbr.alloc hbr.size (.cells #[.int .i64 97] 3)
      have hni : (100 + m) ∉ idsL L := fun hin => by have := (HU.out.lt _ hin).2; omega
      have PC := Lib.hid (slPut_no (HR.out.al 97) (100 + m) (iok_small (by omega) (by omega)) (some ⟨wr.heap.size, 0, none⟩) 1 1 (.inr ⟨by omega, hni⟩) (by omega))
      have bn : Below wr.heap.size wr (wr.alloc (.cells #[.int .i64 97] 3)) := (Below.refl _ _).alloc (Nat.le_refl _) _
      have H6 := Lib.hid (HR.out.below bn)
      clear hni bn
      go_wp2_with fail
      with_reducible refine PC.out.mono ?_
      rintro e W6 ⟨rfl, hb6⟩
      have H7 := Lib.hid (H6.out.below hb6)
      have B7 := ba.trans (hb6.mono ba.size)
      clear PC hb6 ba hbr H6 HR
      have hq : 0 ≤ m % 100 ∧ m % 100 < 100 := ⟨by omega, by omega⟩
      obtain ⟨z, hz⟩ : ∃ z, m % 100 = z := ⟨_, rfl⟩
      rw [hz] at hq
      obtain ⟨hq0, hq1⟩ := hq
      have HO := Lib.hid (HU.out.old (K := kyN nil0 letC opt1) H7.out.srt hq0 hq1 [98])
      have bb := B7.alloc B7.size (.cells #[.int .i64 98] 3)
      have PC := Lib.hid (slPut_any (H7.out.al 98) z (iok_small (by omega) (by omega)) (some ⟨W6.heap.size, 0, none⟩) 1 [98] (H7.out.row1 98) (by simp) (fun z hz => by simp at hz; subst hz; rfl) (by have := HO.out.2; omega) (by unfold maxLen; omega))
      have HLF := Lib.hid H7.out.lf
      unfold RetL at PC
      dsimp only [List.length_cons, List.length_nil, Nat.reduceAdd] at PC
      go_wp2_with fail
      with_reducible refine PC.out.mono ?_
      rintro e W8 ⟨rfl, O8, oc8, f8, hl8, hc8, hO8⟩
      have H8 := Lib.hid hl8
      have B8 := chg_below bb bb.size hc8 hbs HLF.out
      have IC := Lib.hid (slItems_own H8.out)
      unfold RetOwnI at IC
      rw [idsL_len, HO.out.1] at IC
      clear PC hl8 hc8 hO8 bb B7
      go_wp2_with fail
      with_reducible refine IC.out.mono ?_
      rintro e W9 ⟨A9, k9, rfl, _, hb9⟩
      have B9 := B8.trans (hb9.mono B8.size)
      clear IC hb9 B8
      go_wp2_with fail
      with_reducible refine (KA.out _ B9).mono ?_
      rintro e Wz ⟨rfl, hbz⟩
      have hbf := B9.trans (hbz.mono B9.size)
      go_wp2_with fail
      go_ret
      exact ⟨rfl, hbf⟩
end Go.Proofs.YtpfbnikbebccjaaGreatDoor

