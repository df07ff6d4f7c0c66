/- The contract of colltable.keyOf: the key of one to eight codes. Written by gen_key.py. -/
import Derived.Test.YtnfnoefjgiojoaaRefColl
import Derived.Laws.IdiomCopy
namespace Go.Proofs.Ytnfnoefjgiojoaa
open Go.RowKit Go.Maps Go.WideMaps

def keyL (zs : List Int) : List Int := (zs.length : Int) :: (zs ++ List.replicate (8 - zs.length) 0)
def keyV (zs : List Int) : Value := .agg ((keyL zs).map (Value.int .i64)).toArray
def RetKey (zs : List Int) (w : World) (e : Ending) (w' : World) : Prop := e = .returned (keyV zs) ∧ Below w.heap.size w w'
theorem info_int1 : (Try.prog.info? 3).map (·.size) = some 1 := by kernel_rfl
theorem results_key (tmps : Array Value) (w : World) {b : Nat} {z0 z1 z2 z3 z4 z5 z6 z7 z8 : Int} (ha : tmps.getD 2 undef = .pointer (some ⟨b, 0, none⟩))
    (c0 : w.cell? ⟨b, 0, none⟩ = some (.int .i64 z0)) (c1 : w.cell? ⟨b, 1, none⟩ = some (.int .i64 z1)) (c2 : w.cell? ⟨b, 2, none⟩ = some (.int .i64 z2)) (c3 : w.cell? ⟨b, 3, none⟩ = some (.int .i64 z3)) (c4 : w.cell? ⟨b, 4, none⟩ = some (.int .i64 z4)) (c5 : w.cell? ⟨b, 5, none⟩ = some (.int .i64 z5)) (c6 : w.cell? ⟨b, 6, none⟩ = some (.int .i64 z6)) (c7 : w.cell? ⟨b, 7, none⟩ = some (.int .i64 z7)) (c8 : w.cell? ⟨b, 8, none⟩ = some (.int .i64 z8)) :
    (results Try.f66 tmps).run Try.prog w = .ok (.agg #[.int .i64 z0, .int .i64 z1, .int .i64 z2, .int .i64 z3, .int .i64 z4, .int .i64 z5, .int .i64 z6, .int .i64 z7, .int .i64 z8]) w := by
  have hr : Try.f66.results = #[.cell 2 96] := rfl
  unfold results
  rw [hr]
  simp only [ha, List.mapM_toArray, List.mapM_cons, List.mapM_nil, asAddr]
  go_simp

set_option maxRecDepth 100000 in
set_option maxHeartbeats 1600000 in
theorem keyOf_1 (A : Option Addr) (kc : Nat) (a0 : Int) (w : World) (hA : Ints w A [a0]) : Calls Try.prog 66 #[.slice A 1 kc] w (RetKey [a0] w) := by
  obtain ⟨b, o, rfl, hc⟩ := hA.at (k := 0) (by simp)
  have hs := fun (W : World) => run_copy_cells (P := Try.prog) W 46 46 3 3 (w.heap.size + 1) 1 8 8 ⟨b, o, none⟩ 1 kc [.int .i64 a0] Try.underlying46 info_int1 rfl
  have hI : Ints ((w.alloc (.cells #[.int .i64 0, .int .i64 0, .int .i64 0, .int .i64 0, .int .i64 0, .int .i64 0, .int .i64 0, .int .i64 0, .int .i64 0] 96)).alloc (.cells #[.int .i64 1, .int .i64 0, .int .i64 0, .int .i64 0, .int .i64 0, .int .i64 0, .int .i64 0, .int .i64 0, .int .i64 0] 96)) (some ⟨b, o, none⟩) [a0] := Sl.alloc (Sl.alloc hA _) _
  have hcp := hs _ (fun j v hv => by
    obtain ⟨b', o', h1, h2⟩ := hI (by simp)
    injection h1 with h1
    injection h1 with h1 h3
    subst h1; subst h3
    have := h2 j v (by simpa using hv)
    unfold Addr.add
    split
    · next h0 => subst h0; simpa using this
    · exact this) (fun j hj => by
      have : j < 8 := by simp at hj; omega
      rcases j with _ | _ | _ | _ | _ | _ | _ | _ | j <;> first | (simp; done) | omega) (fun j hj => by simp) (oneCell_ints [a0])
  simp only [World.setCells, goInt] at hcp
  clear hs hI hc
  go_enter Try.func66, Try.ntmps66
  go_wp2_with fail
  (try simp only [Exit.inBlock, Exit.then]); refine bodyPost_ret (results_key _ _ (b := w.heap.size) (z0 := 1) (z1 := a0) (z2 := 0) (z3 := 0) (z4 := 0) (z5 := 0) (z6 := 0) (z7 := 0) (z8 := 0) rfl (by go_simp) (by go_simp) (by go_simp) (by go_simp) (by go_simp) (by go_simp) (by go_simp) (by go_simp) (by go_simp)) rfl ?_
  exact ⟨rfl, ((Below.refl _ _).alloc (Nat.le_refl _) _).alloc (by simp) _⟩

set_option maxRecDepth 100000 in
set_option maxHeartbeats 1600000 in
theorem keyOf_2 (A : Option Addr) (kc : Nat) (a0 a1 : Int) (w : World) (hA : Ints w A [a0, a1]) : Calls Try.prog 66 #[.slice A 2 kc] w (RetKey [a0, a1] w) := by
  obtain ⟨b, o, rfl, hc⟩ := hA.at (k := 0) (by simp)
  have hs := fun (W : World) => run_copy_cells (P := Try.prog) W 46 46 3 3 (w.heap.size + 1) 1 8 8 ⟨b, o, none⟩ 2 kc [.int .i64 a0, .int .i64 a1] Try.underlying46 info_int1 rfl
  have hI : Ints ((w.alloc (.cells #[.int .i64 0, .int .i64 0, .int .i64 0, .int .i64 0, .int .i64 0, .int .i64 0, .int .i64 0, .int .i64 0, .int .i64 0] 96)).alloc (.cells #[.int .i64 2, .int .i64 0, .int .i64 0, .int .i64 0, .int .i64 0, .int .i64 0, .int .i64 0, .int .i64 0, .int .i64 0] 96)) (some ⟨b, o, none⟩) [a0, a1] := Sl.alloc (Sl.alloc hA _) _
  have hcp := hs _ (fun j v hv => by
    obtain ⟨b', o', h1, h2⟩ := hI (by simp)
    injection h1 with h1
    injection h1 with h1 h3
    subst h1; subst h3
    have := h2 j v (by simpa using hv)
    unfold Addr.add
    split
    · next h0 => subst h0; simpa using this
    · exact this) (fun j hj => by
      have : j < 8 := by simp at hj; omega
      rcases j with _ | _ | _ | _ | _ | _ | _ | _ | j <;> first | (simp; done) | omega) (fun j hj => by simp) (oneCell_ints [a0, a1])
  simp only [World.setCells, goInt] at hcp
  clear hs hI hc
  go_enter Try.func66, Try.ntmps66
  go_wp2_with fail
  (try simp only [Exit.inBlock, Exit.then]); refine bodyPost_ret (results_key _ _ (b := w.heap.size) (z0 := 2) (z1 := a0) (z2 := a1) (z3 := 0) (z4 := 0) (z5 := 0) (z6 := 0) (z7 := 0) (z8 := 0) rfl (by go_simp) (by go_simp) (by go_simp) (by go_simp) (by go_simp) (by go_simp) (by go_simp) (by go_simp) (by go_simp)) rfl ?_
  exact ⟨rfl, ((Below.refl _ _).alloc (Nat.le_refl _) _).alloc (by simp) _⟩

set_option maxRecDepth 100000 in
set_option maxHeartbeats 1600000 in
theorem keyOf_3 (A : Option Addr) (kc : Nat) (a0 a1 a2 : Int) (w : World) (hA : Ints w A [a0, a1, a2]) : Calls Try.prog 66 #[.slice A 3 kc] w (RetKey [a0, a1, a2] w) := by
  obtain ⟨b, o, rfl, hc⟩ := hA.at (k := 0) (by simp)
  have hs := fun (W : World) => run_copy_cells (P := Try.prog) W 46 46 3 3 (w.heap.size + 1) 1 8 8 ⟨b, o, none⟩ 3 kc [.int .i64 a0, .int .i64 a1, .int .i64 a2] Try.underlying46 info_int1 rfl
  have hI : Ints ((w.alloc (.cells #[.int .i64 0, .int .i64 0, .int .i64 0, .int .i64 0, .int .i64 0, .int .i64 0, .int .i64 0, .int .i64 0, .int .i64 0] 96)).alloc (.cells #[.int .i64 3, .int .i64 0, .int .i64 0, .int .i64 0, .int .i64 0, .int .i64 0, .int .i64 0, .int .i64 0, .int .i64 0] 96)) (some ⟨b, o, none⟩) [a0, a1, a2] := Sl.alloc (Sl.alloc hA _) _
  have hcp := hs _ (fun j v hv => by
    obtain ⟨b', o', h1, h2⟩ := hI (by simp)
    injection h1 with h1
    injection h1 with h1 h3
    subst h1; subst h3
    have := h2 j v (by simpa using hv)
    unfold Addr.add
    split
    · next h0 => subst h0; simpa using this
    · exact this) (fun j hj => by
      have : j < 8 := by simp at hj; omega
      rcases j with _ | _ | _ | _ | _ | _ | _ | _ | j <;> first | (simp; done) | omega) (fun j hj => by simp) (oneCell_ints [a0, a1, a2])
  simp only [World.setCells, goInt] at hcp
  clear hs hI hc
  go_enter Try.func66, Try.ntmps66
  go_wp2_with fail
  (try simp only [Exit.inBlock, Exit.then]); refine bodyPost_ret (results_key _ _ (b := w.heap.size) (z0 := 3) (z1 := a0) (z2 := a1) (z3 := a2) (z4 := 0) (z5 := 0) (z6 := 0) (z7 := 0) (z8 := 0) rfl (by go_simp) (by go_simp) (by go_simp) (by go_simp) (by go_simp) (by go_simp) (by go_simp) (by go_simp) (by go_simp)) rfl ?_
  exact ⟨rfl, ((Below.refl _ _).alloc (Nat.le_refl _) _).alloc (by simp) _⟩

set_option maxRecDepth 100000 in
set_option maxHeartbeats 1600000 in
theorem keyOf_4 (A : Option Addr) (kc : Nat) (a0 a1 a2 a3 : Int) (w : World) (hA : Ints w A [a0, a1, a2, a3]) : Calls Try.prog 66 #[.slice A 4 kc] w (RetKey [a0, a1, a2, a3] w) := by
  obtain ⟨b, o, rfl, hc⟩ := hA.at (k := 0) (by simp)
  have hs := fun (W : World) => run_copy_cells (P := Try.prog) W 46 46 3 3 (w.heap.size + 1) 1 8 8 ⟨b, o, none⟩ 4 kc [.int .i64 a0, .int .i64 a1, .int .i64 a2, .int .i64 a3] Try.underlying46 info_int1 rfl
  have hI : Ints ((w.alloc (.cells #[.int .i64 0, .int .i64 0, .int .i64 0, .int .i64 0, .int .i64 0, .int .i64 0, .int .i64 0, .int .i64 0, .int .i64 0] 96)).alloc (.cells #[.int .i64 4, .int .i64 0, .int .i64 0, .int .i64 0, .int .i64 0, .int .i64 0, .int .i64 0, .int .i64 0, .int .i64 0] 96)) (some ⟨b, o, none⟩) [a0, a1, a2, a3] := Sl.alloc (Sl.alloc hA _) _
  have hcp := hs _ (fun j v hv => by
    obtain ⟨b', o', h1, h2⟩ := hI (by simp)
    injection h1 with h1
    injection h1 with h1 h3
    subst h1; subst h3
    have := h2 j v (by simpa using hv)
    unfold Addr.add
    split
    · next h0 => subst h0; simpa using this
    · exact this) (fun j hj => by
      have : j < 8 := by simp at hj; omega
      rcases j with _ | _ | _ | _ | _ | _ | _ | _ | j <;> first | (simp; done) | omega) (fun j hj => by simp) (oneCell_ints [a0, a1, a2, a3])
  simp only [World.setCells, goInt] at hcp
  clear hs hI hc
  go_enter Try.func66, Try.ntmps66
  go_wp2_with fail
  (try simp only [Exit.inBlock, Exit.then]); refine bodyPost_ret (results_key _ _ (b := w.heap.size) (z0 := 4) (z1 := a0) (z2 := a1) (z3 := a2) (z4 := a3) (z5 := 0) (z6 := 0) (z7 := 0) (z8 := 0) rfl (by go_simp) (by go_simp) (by go_simp) (by go_simp) (by go_simp) (by go_simp) (by go_simp) (by go_simp) (by go_simp)) rfl ?_
  exact ⟨rfl, ((Below.refl _ _).alloc (Nat.le_refl _) _).alloc (by simp) _⟩

set_option maxRecDepth 100000 in
set_option maxHeartbeats 1600000 in
theorem keyOf_5 (A : Option Addr) (kc : Nat) (a0 a1 a2 a3 a4 : Int) (w : World) (hA : Ints w A [a0, a1, a2, a3, a4]) : Calls Try.prog 66 #[.slice A 5 kc] w (RetKey [a0, a1, a2, a3, a4] w) := by
  obtain ⟨b, o, rfl, hc⟩ := hA.at (k := 0) (by simp)
  have hs := fun (W : World) => run_copy_cells (P := Try.prog) W 46 46 3 3 (w.heap.size + 1) 1 8 8 ⟨b, o, none⟩ 5 kc [.int .i64 a0, .int .i64 a1, .int .i64 a2, .int .i64 a3, .int .i64 a4] Try.underlying46 info_int1 rfl
  have hI : Ints ((w.alloc (.cells #[.int .i64 0, .int .i64 0, .int .i64 0, .int .i64 0, .int .i64 0, .int .i64 0, .int .i64 0, .int .i64 0, .int .i64 0] 96)).alloc (.cells #[.int .i64 5, .int .i64 0, .int .i64 0, .int .i64 0, .int .i64 0, .int .i64 0, .int .i64 0, .int .i64 0, .int .i64 0] 96)) (some ⟨b, o, none⟩) [a0, a1, a2, a3, a4] := Sl.alloc (Sl.alloc hA _) _
  have hcp := hs _ (fun j v hv => by
    obtain ⟨b', o', h1, h2⟩ := hI (by simp)
    injection h1 with h1
    injection h1 with h1 h3
    subst h1; subst h3
    have := h2 j v (by simpa using hv)
    unfold Addr.add
    split
    · next h0 => subst h0; simpa using this
    · exact this) (fun j hj => by
      have : j < 8 := by simp at hj; omega
      rcases j with _ | _ | _ | _ | _ | _ | _ | _ | j <;> first | (simp; done) | omega) (fun j hj => by simp) (oneCell_ints [a0, a1, a2, a3, a4])
  simp only [World.setCells, goInt] at hcp
  clear hs hI hc
  go_enter Try.func66, Try.ntmps66
  go_wp2_with fail
  (try simp only [Exit.inBlock, Exit.then]); refine bodyPost_ret (results_key _ _ (b := w.heap.size) (z0 := 5) (z1 := a0) (z2 := a1) (z3 := a2) (z4 := a3) (z5 := a4) (z6 := 0) (z7 := 0) (z8 := 0) rfl (by go_simp) (by go_simp) (by go_simp) (by go_simp) (by go_simp) (by go_simp) (by go_simp) (by go_simp) (by go_simp)) rfl ?_
  exact ⟨rfl, ((Below.refl _ _).alloc (Nat.le_refl _) _).alloc (by simp) _⟩

set_option maxRecDepth 100000 in
set_option maxHeartbeats 1600000 in
theorem keyOf_6 (A : Option Addr) (kc : Nat) (a0 a1 a2 a3 a4 a5 : Int) (w : World) (hA : Ints w A [a0, a1, a2, a3, a4, a5]) : Calls Try.prog 66 #[.slice A 6 kc] w (RetKey [a0, a1, a2, a3, a4, a5] w) := by
  obtain ⟨b, o, rfl, hc⟩ := hA.at (k := 0) (by simp)
  have hs := fun (W : World) => run_copy_cells (P := Try.prog) W 46 46 3 3 (w.heap.size + 1) 1 8 8 ⟨b, o, none⟩ 6 kc [.int .i64 a0, .int .i64 a1, .int .i64 a2, .int .i64 a3, .int .i64 a4, .int .i64 a5] Try.underlying46 info_int1 rfl
  have hI : Ints ((w.alloc (.cells #[.int .i64 0, .int .i64 0, .int .i64 0, .int .i64 0, .int .i64 0, .int .i64 0, .int .i64 0, .int .i64 0, .int .i64 0] 96)).alloc (.cells #[.int .i64 6, .int .i64 0, .int .i64 0, .int .i64 0, .int .i64 0, .int .i64 0, .int .i64 0, .int .i64 0, .int .i64 0] 96)) (some ⟨b, o, none⟩) [a0, a1, a2, a3, a4, a5] := Sl.alloc (Sl.alloc hA _) _
  have hcp := hs _ (fun j v hv => by
    obtain ⟨b', o', h1, h2⟩ := hI (by simp)
    injection h1 with h1
    injection h1 with h1 h3
    subst h1; subst h3
    have := h2 j v (by simpa using hv)
    unfold Addr.add
    split
    · next h0 => subst h0; simpa using this
    · exact this) (fun j hj => by
      have : j < 8 := by simp at hj; omega
      rcases j with _ | _ | _ | _ | _ | _ | _ | _ | j <;> first | (simp; done) | omega) (fun j hj => by simp) (oneCell_ints [a0, a1, a2, a3, a4, a5])
  simp only [World.setCells, goInt] at hcp
  clear hs hI hc
  go_enter Try.func66, Try.ntmps66
  go_wp2_with fail
  (try simp only [Exit.inBlock, Exit.then]); refine bodyPost_ret (results_key _ _ (b := w.heap.size) (z0 := 6) (z1 := a0) (z2 := a1) (z3 := a2) (z4 := a3) (z5 := a4) (z6 := a5) (z7 := 0) (z8 := 0) rfl (by go_simp) (by go_simp) (by go_simp) (by go_simp) (by go_simp) (by go_simp) (by go_simp) (by go_simp) (by go_simp)) rfl ?_
  exact ⟨rfl, ((Below.refl _ _).alloc (Nat.le_refl _) _).alloc (by simp) _⟩

set_option maxRecDepth 100000 in
set_option maxHeartbeats 1600000 in
theorem keyOf_7 (A : Option Addr) (kc : Nat) (a0 a1 a2 a3 a4 a5 a6 : Int) (w : World) (hA : Ints w A [a0, a1, a2, a3, a4, a5, a6]) : Calls Try.prog 66 #[.slice A 7 kc] w (RetKey [a0, a1, a2, a3, a4, a5, a6] w) := by
  obtain ⟨b, o, rfl, hc⟩ := hA.at (k := 0) (by simp)
  have hs := fun (W : World) => run_copy_cells (P := Try.prog) W 46 46 3 3 (w.heap.size + 1) 1 8 8 ⟨b, o, none⟩ 7 kc [.int .i64 a0, .int .i64 a1, .int .i64 a2, .int .i64 a3, .int .i64 a4, .int .i64 a5, .int .i64 a6] Try.underlying46 info_int1 rfl
  have hI : Ints ((w.alloc (.cells #[.int .i64 0, .int .i64 0, .int .i64 0, .int .i64 0, .int .i64 0, .int .i64 0, .int .i64 0, .int .i64 0, .int .i64 0] 96)).alloc (.cells #[.int .i64 7, .int .i64 0, .int .i64 0, .int .i64 0, .int .i64 0, .int .i64 0, .int .i64 0, .int .i64 0, .int .i64 0] 96)) (some ⟨b, o, none⟩) [a0, a1, a2, a3, a4, a5, a6] := Sl.alloc (Sl.alloc hA _) _
  have hcp := hs _ (fun j v hv => by
    obtain ⟨b', o', h1, h2⟩ := hI (by simp)
    injection h1 with h1
    injection h1 with h1 h3
    subst h1; subst h3
    have := h2 j v (by simpa using hv)
    unfold Addr.add
    split
    · next h0 => subst h0; simpa using this
    · exact this) (fun j hj => by
      have : j < 8 := by simp at hj; omega
      rcases j with _ | _ | _ | _ | _ | _ | _ | _ | j <;> first | (simp; done) | omega) (fun j hj => by simp) (oneCell_ints [a0, a1, a2, a3, a4, a5, a6])
  simp only [World.setCells, goInt] at hcp
  clear hs hI hc
  go_enter Try.func66, Try.ntmps66
  go_wp2_with fail
  (try simp only [Exit.inBlock, Exit.then]); refine bodyPost_ret (results_key _ _ (b := w.heap.size) (z0 := 7) (z1 := a0) (z2 := a1) (z3 := a2) (z4 := a3) (z5 := a4) (z6 := a5) (z7 := a6) (z8 := 0) rfl (by go_simp) (by go_simp) (by go_simp) (by go_simp) (by go_simp) (by go_simp) (by go_simp) (by go_simp) (by go_simp)) rfl ?_
  exact ⟨rfl, ((Below.refl _ _).alloc (Nat.le_refl _) _).alloc (by simp) _⟩

set_option maxRecDepth 100000 in
set_option maxHeartbeats 1600000 in
theorem keyOf_8 (A : Option Addr) (kc : Nat) (a0 a1 a2 a3 a4 a5 a6 a7 : Int) (w : World) (hA : Ints w A [a0, a1, a2, a3, a4, a5, a6, a7]) : Calls Try.prog 66 #[.slice A 8 kc] w (RetKey [a0, a1, a2, a3, a4, a5, a6, a7] w) := by
  obtain ⟨b, o, rfl, hc⟩ := hA.at (k := 0) (by simp)
  have hs := fun (W : World) => run_copy_cells (P := Try.prog) W 46 46 3 3 (w.heap.size + 1) 1 8 8 ⟨b, o, none⟩ 8 kc [.int .i64 a0, .int .i64 a1, .int .i64 a2, .int .i64 a3, .int .i64 a4, .int .i64 a5, .int .i64 a6, .int .i64 a7] Try.underlying46 info_int1 rfl
  have hI : Ints ((w.alloc (.cells #[.int .i64 0, .int .i64 0, .int .i64 0, .int .i64 0, .int .i64 0, .int .i64 0, .int .i64 0, .int .i64 0, .int .i64 0] 96)).alloc (.cells #[.int .i64 8, .int .i64 0, .int .i64 0, .int .i64 0, .int .i64 0, .int .i64 0, .int .i64 0, .int .i64 0, .int .i64 0] 96)) (some ⟨b, o, none⟩) [a0, a1, a2, a3, a4, a5, a6, a7] := Sl.alloc (Sl.alloc hA _) _
  have hcp := hs _ (fun j v hv => by
    obtain ⟨b', o', h1, h2⟩ := hI (by simp)
    injection h1 with h1
    injection h1 with h1 h3
    subst h1; subst h3
    have := h2 j v (by simpa using hv)
    unfold Addr.add
    split
    · next h0 => subst h0; simpa using this
    · exact this) (fun j hj => by
      have : j < 8 := by simp at hj; omega
      rcases j with _ | _ | _ | _ | _ | _ | _ | _ | j <;> first | (simp; done) | omega) (fun j hj => by simp) (oneCell_ints [a0, a1, a2, a3, a4, a5, a6, a7])
  simp only [World.setCells, goInt] at hcp
  clear hs hI hc
  go_enter Try.func66, Try.ntmps66
  go_wp2_with fail
  (try simp only [Exit.inBlock, Exit.then]); refine bodyPost_ret (results_key _ _ (b := w.heap.size) (z0 := 8) (z1 := a0) (z2 := a1) (z3 := a2) (z4 := a3) (z5 := a4) (z6 := a5) (z7 := a6) (z8 := a7) rfl (by go_simp) (by go_simp) (by go_simp) (by go_simp) (by go_simp) (by go_simp) (by go_simp) (by go_simp) (by go_simp)) rfl ?_
  exact ⟨rfl, ((Below.refl _ _).alloc (Nat.le_refl _) _).alloc (by simp) _⟩

theorem keyOf_any (A : Option Addr) (n kc : Nat) (zs : List Int) (w : World) (hA : Ints w A zs) (hn : zs.length = n) (h0 : 1 ≤ n) (h8 : n ≤ 8) : Calls Try.prog 66 #[.slice A n kc] w (RetKey zs w) := by
  subst hn
  match zs, h0, h8, hA with
  | [a0], _, _, hA => exact keyOf_1 A kc a0 w hA
  | [a0, a1], _, _, hA => exact keyOf_2 A kc a0 a1 w hA
  | [a0, a1, a2], _, _, hA => exact keyOf_3 A kc a0 a1 a2 w hA
  | [a0, a1, a2, a3], _, _, hA => exact keyOf_4 A kc a0 a1 a2 a3 w hA
  | [a0, a1, a2, a3, a4], _, _, hA => exact keyOf_5 A kc a0 a1 a2 a3 a4 w hA
  | [a0, a1, a2, a3, a4, a5], _, _, hA => exact keyOf_6 A kc a0 a1 a2 a3 a4 a5 w hA
  | [a0, a1, a2, a3, a4, a5, a6], _, _, hA => exact keyOf_7 A kc a0 a1 a2 a3 a4 a5 a6 w hA
  | [a0, a1, a2, a3, a4, a5, a6, a7], _, _, hA => exact keyOf_8 A kc a0 a1 a2 a3 a4 a5 a6 a7 w hA
  | _ :: _ :: _ :: _ :: _ :: _ :: _ :: _ :: _ :: _, _, h8, _ => simp at h8

end Go.Proofs.Ytnfnoefjgiojoaa
