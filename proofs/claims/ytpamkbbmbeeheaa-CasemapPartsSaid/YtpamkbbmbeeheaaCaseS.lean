/- The contracts of casemap.Simple, of the reference's only, Simple and Small, and of few. Written by gen_cases.py. -/
import Derived.Test.YtpamkbbmbeeheaaCaseRb
import Derived.Test.YtpamkbbmbeeheaaMapGet
namespace Go.Proofs.Ytpamkbbmbeeheaa
open Go.RowKit Go.Maps Go.WideMaps

theorem onlyL_one (y x : Int) : onlyL [y] x = y := rfl
theorem onlyL_not {l : List Int} (h : ¬ l.length = 1) (x : Int) : onlyL l x = x := by
  match l with
  | [] => rfl
  | [_] => simp at h
  | _ :: _ :: _ => rfl
set_option maxRecDepth 100000 in
set_option maxHeartbeats 3200000 in
theorem only_any (A : Option Addr) (n c : Nat) (l : List Int) (x : Int) (w : World) (hA : Ints w A l) (hn : l.length = n) :
    Calls Try.prog 51 #[.slice A n c, .int .i64 x] w (fun e w' => e = .returned (.int .i64 (onlyL l x)) ∧ w = w') := by
  subst hn
  by_cases h1 : l.length = 1
  · obtain ⟨y, rfl⟩ := List.length_eq_one_iff.1 h1
    obtain ⟨b1, o1, rfl, hc⟩ := hA.at (k := 0) (by simp)
    have c0 := hc 0 (by simp)
    rw [Nat.add_zero] at c0
    rw [onlyL_one]
    clear hc hA h1
    simp only [List.length_singleton, List.getElem_cons_zero] at *
    go_enter Try.func51, Try.ntmps51
    go_wp2_with fail
    go_ret
    exact ⟨rfl, rfl⟩
  · rw [onlyL_not h1]
    have q : ((l.length : Int) != 1) = true := by simp; omega
    go_enter Try.func51, Try.ntmps51
    go_wp2_with fail
    go_ret
    exact ⟨rfl, rfl⟩
theorem MpsV.getP {w : World} {v : Value} {ms : List Mp} (h : MpsV w v ms) (hz : MpsSz ms) (hok : mapErr ms = 0) (x : Int) (tag : ByteArray) : Calls Try.prog 49 #[v, .int .i64 x, .string tag] w (RetGet (getM ms x tag) w) := by
  obtain ⟨A, c, rfl, _, hM⟩ := h
  have := mapGet_any A ms.length c ms x tag w hM rfl hz
  rw [getV_ok hok] at this
  exact this
set_option maxRecDepth 100000 in
set_option maxHeartbeats 6400000 in
theorem simple1_any (v : Value) (ms : List Mp) (x : Int) (b : Nat) (w : World) (h : MpsV w v ms) (hz : MpsSz ms) (hok : mapErr ms = 0) (hb : w.cell? ⟨b, 0, none⟩ = some (.int .i64 x)) :
    Calls Try.prog 48 #[v, .pointer (some ⟨b, 0, none⟩)] w (RetInt (onlyL (mapT ms x) x) w) := by
  have G := Lib.hid (show Calls Try.prog 49 #[v, .int .i64 x, .string ⟨#[]⟩] w (RetGet (getM ms x .empty) w) from h.getP hz hok x .empty)
  have E := Lib.hid (show mapT ms x = (getM ms x .empty).getD [x] from rfl)
  have GI := Lib.hid (fun l (hl : getM ms x .empty = some l) => getM_in hok hl)
  have lb := World.block_lt_of_cell? w _ hb
  generalize getM ms x .empty = g at *
  generalize mapT ms x = R at *
  obtain rfl := E.out
  clear E h hz hok
  go_enter Try.func48, Try.ntmps48
  go_wp2_with fail
  with_reducible refine G.out.mono ?_
  rintro e W1 ⟨E, d, rfl, h1, h2, hb1⟩
  have hb2 := (hb1.cell (p := ⟨b, 0, none⟩) lb).trans hb
  have hl1 : b < W1.heap.size := World.block_lt_of_cell? W1 _ hb2
  have HH := Lib.hid (And.intro h1 h2)
  clear G h1 h2 hb lb
  cases g with
  | none =>
    simp only [Option.isSome_none, Option.getD_none] at HH ⊢
    go_wp2_with fail
    go_ret
    exact ⟨rfl, hb1⟩
  | some l =>
    have hin := GI.out l rfl
    simp only [Option.isSome_some, Option.getD_some] at HH ⊢
    by_cases h1 : l.length = 1
    · obtain ⟨y, rfl⟩ := List.length_eq_one_iff.1 h1
      obtain ⟨b1, o1, rfl, hc⟩ := HH.out.2.at (k := 0) (by simp)
      have c0 := hc 0 (by simp)
      rw [Nat.add_zero] at c0
      clear hc h1 HH GI
      simp only [List.length_singleton, List.getElem_cons_zero] at *
      go_wp2_with fail
      with_reducible refine (cpValid_any x _).mono ?_
      rw [hin]
      rintro e W2 ⟨rfl, rfl⟩
      go_wp2_with fail
      go_ret
      exact ⟨rfl, hb1⟩
    · have HN := Lib.hid (onlyL_not h1 x)
      have q : ((l.length : Int) == 1) = false := by simp; omega
      go_wp2_with fail
      go_ret
      exact ⟨ret_int HN.out.symm, hb1⟩
/-- three numbers are returned -/
def RetI3 (x y z : Int) (w : World) (e : Ending) (w' : World) : Prop := e = .returned (.tuple #[.int .i64 x, .int .i64 y, .int .i64 z]) ∧ Below w.heap.size w w'
def sim (ms : List Mp) (x : Int) : Int := onlyL (mapT ms x) x

set_option maxRecDepth 100000 in
set_option maxHeartbeats 12800000 in
theorem refSimple_any (v0 v1 v2 v3 v4 v5 : Value) (C : Cse) (x : Int) (w : World) (h : CaseAt w v0 v1 v2 v3 v4 v5 C) (hz : CaseSz C) :
    Calls Try.prog 25 #[.agg #[v0, v1, v2, v3, v4, v5], .int .i64 x] w (RetI3 (sim (caseD C).lower x) (sim (caseD C).upper x) (sim (caseD C).title x) w) := by
  obtain ⟨A0, n0, c0, rfl⟩ := h.lower.sl
  obtain ⟨A1, n1, c1, rfl⟩ := h.upper.sl
  obtain ⟨A2, n2, c2, rfl⟩ := h.title.sl
  obtain ⟨A3, n3, c3, rfl⟩ := h.fold.sl
  obtain ⟨A4, n4, c4, rfl⟩ := h.cased.sl
  obtain ⟨A5, n5, c5, rfl⟩ := h.ign.sl
  have B0 : Below w.heap.size w (w.alloc (.cells #[.slice A0 n0 c0, .slice A1 n1 c1, .slice A2 n2 c2, .slice A3 n3 c3, .slice A4 n4 c4, .slice A5 n5 c5] 27)) := (Below.refl _ _).alloc (Nat.le_refl _) _
  have X0 : Box (w.alloc (.cells #[.slice A0 n0 c0, .slice A1 n1 c1, .slice A2 n2 c2, .slice A3 n3 c3, .slice A4 n4 c4, .slice A5 n5 c5] 27)) w.heap.size 27 [.slice A0 n0 c0, .slice A1 n1 c1, .slice A2 n2 c2, .slice A3 n3 c3, .slice A4 n4 c4, .slice A5 n5 c5] := Box.new w 27 [.slice A0 n0 c0, .slice A1 n1 c1, .slice A2 n2 c2, .slice A3 n3 c3, .slice A4 n4 c4, .slice A5 n5 c5] rfl
  have W0E : ∃ W0, (w.alloc (.cells #[.slice A0 n0 c0, .slice A1 n1 c1, .slice A2 n2 c2, .slice A3 n3 c3, .slice A4 n4 c4, .slice A5 n5 c5] 27)) = W0 := ⟨_, rfl⟩
  have CA := Lib.hid (fun W (hb : Below w.heap.size w W) => h.below hb)
  have VD := Lib.hid (fun W (hb : Below w.heap.size w W) => refData_any _ _ _ _ _ _ C W (h.below hb) hz)
  have M0 := Lib.hid (fun W u0 u1 u2 u3 u4 u5 (hc : CaseAt W u0 u1 u2 u3 u4 u5 (caseD C)) => mapped_any u0 (caseD C).lower x W hc.lower hz.d.lower (caseD_isok C).lower)
  have M1 := Lib.hid (fun W u0 u1 u2 u3 u4 u5 (hc : CaseAt W u0 u1 u2 u3 u4 u5 (caseD C)) => mapped_any u1 (caseD C).upper x W hc.upper hz.d.upper (caseD_isok C).upper)
  have M2 := Lib.hid (fun W u0 u1 u2 u3 u4 u5 (hc : CaseAt W u0 u1 u2 u3 u4 u5 (caseD C)) => mapped_any u2 (caseD C).title x W hc.title hz.d.title (caseD_isok C).title)
  have E0 := Lib.hid (show sim (caseD C).lower x = onlyL (mapT (caseD C).lower x) x from rfl)
  have E1 := Lib.hid (show sim (caseD C).upper x = onlyL (mapT (caseD C).upper x) x from rfl)
  have E2 := Lib.hid (show sim (caseD C).title x = onlyL (mapT (caseD C).title x) x from rfl)
  generalize sim (caseD C).lower x = r0 at *
  generalize sim (caseD C).upper x = r1 at *
  generalize sim (caseD C).title x = r2 at *
  generalize mapT (caseD C).lower x = l0 at *
  generalize mapT (caseD C).upper x = l1 at *
  generalize mapT (caseD C).title x = l2 at *
  obtain rfl := E0.out
  obtain rfl := E1.out
  obtain rfl := E2.out
  clear h hz E0 E1 E2
  have e0 := X0.cell (i := 0) rfl
  have e1 := X0.cell (i := 1) rfl
  have e2 := X0.cell (i := 2) rfl
  have e3 := X0.cell (i := 3) rfl
  have e4 := X0.cell (i := 4) rfl
  have e5 := X0.cell (i := 5) rfl
  go_enter Try.func25, Try.ntmps25
  go_wp2_with fail
  clear e0 e1 e2 e3 e4 e5
  obtain ⟨W0, hW0⟩ := W0E
  rw [hW0] at B0 X0 ⊢
  clear hW0
  with_reducible refine (VD.out W0 B0).mono ?_
  rintro e W1 ⟨u0, u1, u2, u3, u4, u5, rfl, hT, hb1⟩
  have hb2 := B0.trans (hb1.mono B0.size)
  have hC1 := hT W1 (CA.out W1 hb2)
  obtain ⟨B0, m0, d0, rfl⟩ := hC1.lower.sl
  obtain ⟨B1, m1, d1, rfl⟩ := hC1.upper.sl
  obtain ⟨B2, m2, d2, rfl⟩ := hC1.title.sl
  obtain ⟨B3, m3, d3, rfl⟩ := hC1.fold.sl
  obtain ⟨B4, m4, d4, rfl⟩ := hC1.cased.sl
  obtain ⟨B5, m5, d5, rfl⟩ := hC1.ign.sl
  have Bd : Below W1.heap.size W1 (W1.alloc (.cells #[.slice B0 m0 d0, .slice B1 m1 d1, .slice B2 m2 d2, .slice B3 m3 d3, .slice B4 m4 d4, .slice B5 m5 d5] 27)) := (Below.refl _ _).alloc (Nat.le_refl _) _
  have hb3 := hb2.trans (Bd.mono hb2.size)
  have XD := Lib.hid (Box.new W1 27 [.slice B0 m0 d0, .slice B1 m1 d1, .slice B2 m2 d2, .slice B3 m3 d3, .slice B4 m4 d4, .slice B5 m5 d5] rfl)
  have DD := Lib.hid (hT _ (CA.out _ hb3))
  have W2E : ∃ W2, W1.alloc (.cells #[.slice B0 m0 d0, .slice B1 m1 d1, .slice B2 m2 d2, .slice B3 m3 d3, .slice B4 m4 d4, .slice B5 m5 d5] 27) = W2 := ⟨_, rfl⟩
  clear VD hC1 hT
  go_wp2_with fail
  obtain ⟨W2, hW2⟩ := W2E
  rw [hW2] at XD DD hb3 Bd ⊢
  clear hW2
  generalize W1.heap.size = bd at *
  have SH := Lib.hid (fun W' (hb' : Below W2.heap.size W2 W') => show W'.cell? ⟨bd, 0, none⟩ = some (.slice B0 m0 d0) ∧ W'.cell? ⟨bd, 1, none⟩ = some (.slice B1 m1 d1) ∧ W'.cell? ⟨bd, 2, none⟩ = some (.slice B2 m2 d2) ∧ Below W2.heap.size W2 W' from ⟨(XD.out.below hb' XD.out.lt).cell (i := 0) rfl, (XD.out.below hb' XD.out.lt).cell (i := 1) rfl, (XD.out.below hb' XD.out.lt).cell (i := 2) rfl, hb'⟩)
  have K0 := Lib.hid (fun W (hb' : Below W2.heap.size W2 W) => (M0.out W _ _ _ _ _ _ (DD.out.below hb')).mono (R' := fun e W' => ∃ v, e = .returned v ∧ (W'.cell? ⟨bd, 0, none⟩ = some (.slice B0 m0 d0) ∧ W'.cell? ⟨bd, 1, none⟩ = some (.slice B1 m1 d1) ∧ W'.cell? ⟨bd, 2, none⟩ = some (.slice B2 m2 d2) ∧ Below W2.heap.size W2 W') ∧ (∃ E d, v = .slice E l0.length d ∧ Ints W' E l0)) (fun e W' ⟨E, d, he, g1, g2, g3⟩ => ⟨_, he, SH.out W' (hb'.trans (g3.mono hb'.size)), E, d, rfl, g2⟩))
  have O0 := Lib.hid (fun W E d (hb' : Below W2.heap.size W2 W) (hE : Ints W E l0) => (only_any E l0.length d l0 x W hE rfl).mono (R' := fun e W' => e = .returned (.int .i64 (onlyL l0 x)) ∧ (W'.cell? ⟨bd, 0, none⟩ = some (.slice B0 m0 d0) ∧ W'.cell? ⟨bd, 1, none⟩ = some (.slice B1 m1 d1) ∧ W'.cell? ⟨bd, 2, none⟩ = some (.slice B2 m2 d2) ∧ Below W2.heap.size W2 W')) (fun e W' hh => ⟨hh.1, hh.2 ▸ SH.out W hb'⟩))
  have K1 := Lib.hid (fun W (hb' : Below W2.heap.size W2 W) => (M1.out W _ _ _ _ _ _ (DD.out.below hb')).mono (R' := fun e W' => ∃ v, e = .returned v ∧ (W'.cell? ⟨bd, 0, none⟩ = some (.slice B0 m0 d0) ∧ W'.cell? ⟨bd, 1, none⟩ = some (.slice B1 m1 d1) ∧ W'.cell? ⟨bd, 2, none⟩ = some (.slice B2 m2 d2) ∧ Below W2.heap.size W2 W') ∧ (∃ E d, v = .slice E l1.length d ∧ Ints W' E l1)) (fun e W' ⟨E, d, he, g1, g2, g3⟩ => ⟨_, he, SH.out W' (hb'.trans (g3.mono hb'.size)), E, d, rfl, g2⟩))
  have O1 := Lib.hid (fun W E d (hb' : Below W2.heap.size W2 W) (hE : Ints W E l1) => (only_any E l1.length d l1 x W hE rfl).mono (R' := fun e W' => e = .returned (.int .i64 (onlyL l1 x)) ∧ (W'.cell? ⟨bd, 0, none⟩ = some (.slice B0 m0 d0) ∧ W'.cell? ⟨bd, 1, none⟩ = some (.slice B1 m1 d1) ∧ W'.cell? ⟨bd, 2, none⟩ = some (.slice B2 m2 d2) ∧ Below W2.heap.size W2 W')) (fun e W' hh => ⟨hh.1, hh.2 ▸ SH.out W hb'⟩))
  have K2 := Lib.hid (fun W (hb' : Below W2.heap.size W2 W) => (M2.out W _ _ _ _ _ _ (DD.out.below hb')).mono (R' := fun e W' => ∃ v, e = .returned v ∧ (W'.cell? ⟨bd, 0, none⟩ = some (.slice B0 m0 d0) ∧ W'.cell? ⟨bd, 1, none⟩ = some (.slice B1 m1 d1) ∧ W'.cell? ⟨bd, 2, none⟩ = some (.slice B2 m2 d2) ∧ Below W2.heap.size W2 W') ∧ (∃ E d, v = .slice E l2.length d ∧ Ints W' E l2)) (fun e W' ⟨E, d, he, g1, g2, g3⟩ => ⟨_, he, SH.out W' (hb'.trans (g3.mono hb'.size)), E, d, rfl, g2⟩))
  have O2 := Lib.hid (fun W E d (hb' : Below W2.heap.size W2 W) (hE : Ints W E l2) => (only_any E l2.length d l2 x W hE rfl).mono (R' := fun e W' => e = .returned (.int .i64 (onlyL l2 x)) ∧ (W'.cell? ⟨bd, 0, none⟩ = some (.slice B0 m0 d0) ∧ W'.cell? ⟨bd, 1, none⟩ = some (.slice B1 m1 d1) ∧ W'.cell? ⟨bd, 2, none⟩ = some (.slice B2 m2 d2) ∧ Below W2.heap.size W2 W')) (fun e W' hh => ⟨hh.1, hh.2 ▸ SH.out W hb'⟩))
  clear M0 M1 M2 CA
  go_wp2_with fail
  refine wp_region_held_drew (S := fun W' => W'.cell? ⟨bd, 0, none⟩ = some (.slice B0 m0 d0) ∧ W'.cell? ⟨bd, 1, none⟩ = some (.slice B1 m1 d1) ∧ W'.cell? ⟨bd, 2, none⟩ = some (.slice B2 m2 d2) ∧ Below W2.heap.size W2 W') (by kernel_rfl) (SH.out _ (Below.refl _ _).drew) (fun hHeld => ?_)
  refine anyH_take (i := 0) (v := ?_) (some 10) rfl rfl (by kernel_rfl) (by kernel_rfl) (by kernel_rfl) (fun _ _ _ h => h) (by rfl) (by assumption) ?_ ?_
  rotate_left
  · intro w hSw; (try dsimp only at hSw); go_split_ands; go_simp; try (with_reducible rfl)
  try simp only [Act.put, List.setIfInBounds_toArray, List.set_cons_zero, List.set_cons_succ]
  refine anyH_take (i := 1) (v := ?_) (some 11) rfl rfl (by kernel_rfl) (by kernel_rfl) (by kernel_rfl) (fun _ _ _ h => h) (by rfl) (by assumption) ?_ ?_
  rotate_left
  · intro w hSw; (try dsimp only at hSw); go_split_ands; go_simp; try (with_reducible rfl)
  try simp only [Act.put, List.setIfInBounds_toArray, List.set_cons_zero, List.set_cons_succ]
  refine anyH_take (i := 2) (v := ?_) (some 12) rfl rfl (by kernel_rfl) (by kernel_rfl) (by kernel_rfl) (fun _ _ _ h => h) (by rfl) (by assumption) ?_ ?_
  rotate_left
  · intro w hSw; (try dsimp only at hSw); go_split_ands; go_simp; try (with_reducible rfl)
  try simp only [Act.put, List.setIfInBounds_toArray, List.set_cons_zero, List.set_cons_succ]
  refine anyH_take (i := 4) (v := ?_) (some 14) rfl rfl (by kernel_rfl) (by kernel_rfl) (by kernel_rfl) (fun _ _ _ h => h) (by rfl) (by assumption) ?_ ?_
  rotate_left
  · intro w hSw; (try dsimp only at hSw); go_split_ands; go_simp; try (with_reducible rfl)
  try simp only [Act.put, List.setIfInBounds_toArray, List.set_cons_zero, List.set_cons_succ]
  refine anyH_take (i := 6) (v := ?_) (some 16) rfl rfl (by kernel_rfl) (by kernel_rfl) (by kernel_rfl) (fun _ _ _ h => h) (by rfl) (by assumption) ?_ ?_
  rotate_left
  · intro w hSw; (try dsimp only at hSw); go_split_ands; go_simp; try (with_reducible rfl)
  try simp only [Act.put, List.setIfInBounds_toArray, List.set_cons_zero, List.set_cons_succ]
  refine anyH_take (i := 7) (v := ?_) (some 17) rfl rfl (by kernel_rfl) (by kernel_rfl) (by kernel_rfl) (fun _ _ _ h => h) (by rfl) (by assumption) ?_ ?_
  rotate_left
  · intro w hSw; (try dsimp only at hSw); go_split_ands; go_simp; try (with_reducible rfl)
  try simp only [Act.put, List.setIfInBounds_toArray, List.set_cons_zero, List.set_cons_succ]
  refine anyH_take (i := 8) (v := ?_) (some 18) rfl rfl (by kernel_rfl) (by kernel_rfl) (by kernel_rfl) (fun _ _ _ h => h) (by rfl) (by assumption) ?_ ?_
  rotate_left
  · intro w hSw; (try dsimp only at hSw); go_split_ands; go_simp; try (with_reducible rfl)
  try simp only [Act.put, List.setIfInBounds_toArray, List.set_cons_zero, List.set_cons_succ]
  refine anyH_take (i := 10) (v := ?_) (some 20) rfl rfl (by kernel_rfl) (by kernel_rfl) (by kernel_rfl) (fun _ _ _ h => h) (by rfl) (by assumption) ?_ ?_
  rotate_left
  · intro w hSw; (try dsimp only at hSw); go_split_ands; go_simp; try (with_reducible rfl)
  try simp only [Act.put, List.setIfInBounds_toArray, List.set_cons_zero, List.set_cons_succ]
  refine anyH_take (i := 12) (v := ?_) (some 22) rfl rfl (by kernel_rfl) (by kernel_rfl) (by kernel_rfl) (fun _ _ _ h => h) (by rfl) (by assumption) ?_ ?_
  rotate_left
  · intro w hSw; (try dsimp only at hSw); go_split_ands; go_simp; try (with_reducible rfl)
  try simp only [Act.put, List.setIfInBounds_toArray, List.set_cons_zero, List.set_cons_succ]
  refine anyH_take (i := 13) (v := ?_) (some 23) rfl rfl (by kernel_rfl) (by kernel_rfl) (by kernel_rfl) (fun _ _ _ h => h) (by rfl) (by assumption) ?_ ?_
  rotate_left
  · intro w hSw; (try dsimp only at hSw); go_split_ands; go_simp; try (with_reducible rfl)
  try simp only [Act.put, List.setIfInBounds_toArray, List.set_cons_zero, List.set_cons_succ]
  refine anyH_take (i := 14) (v := ?_) (some 24) rfl rfl (by kernel_rfl) (by kernel_rfl) (by kernel_rfl) (fun _ _ _ h => h) (by rfl) (by assumption) ?_ ?_
  rotate_left
  · intro w hSw; (try dsimp only at hSw); go_split_ands; go_simp; try (with_reducible rfl)
  try simp only [Act.put, List.setIfInBounds_toArray, List.set_cons_zero, List.set_cons_succ]
  refine anyH_take (i := 16) (v := ?_) (some 26) rfl rfl (by kernel_rfl) (by kernel_rfl) (by kernel_rfl) (fun _ _ _ h => h) (by rfl) (by assumption) ?_ ?_
  rotate_left
  · intro w hSw; (try dsimp only at hSw); go_split_ands; go_simp; try (with_reducible rfl)
  try simp only [Act.put, List.setIfInBounds_toArray, List.set_cons_zero, List.set_cons_succ]
  refine anyH_callE (i := 3) (some 13) rfl rfl (by kernel_rfl) (by rfl) (by go_simp) (K0.out _ hHeld.2.2.2) ?_
  rintro _ W10 hS6 ⟨E0, q0, rfl, hE0⟩
  clear hHeld
  have hHeld := hS6
  clear hS6
  try simp only [Act.put, List.setIfInBounds_toArray, List.set_cons_zero, List.set_cons_succ]
  refine anyH_call (i := 5) (some 15) rfl rfl (by kernel_rfl) (by rfl) (by go_simp) (O0.out _ E0 q0 hHeld.2.2.2 hE0) (fun W11 hS6 => ?_)
  clear hHeld hE0
  have hHeld := hS6
  clear hS6
  try simp only [Act.put, List.setIfInBounds_toArray, List.set_cons_zero, List.set_cons_succ]
  refine anyH_callE (i := 9) (some 19) rfl rfl (by kernel_rfl) (by rfl) (by go_simp) (K1.out _ hHeld.2.2.2) ?_
  rintro _ W12 hS6 ⟨E1, q1, rfl, hE1⟩
  clear hHeld
  have hHeld := hS6
  clear hS6
  try simp only [Act.put, List.setIfInBounds_toArray, List.set_cons_zero, List.set_cons_succ]
  refine anyH_call (i := 11) (some 21) rfl rfl (by kernel_rfl) (by rfl) (by go_simp) (O1.out _ E1 q1 hHeld.2.2.2 hE1) (fun W13 hS6 => ?_)
  clear hHeld hE1
  have hHeld := hS6
  clear hS6
  try simp only [Act.put, List.setIfInBounds_toArray, List.set_cons_zero, List.set_cons_succ]
  refine anyH_callE (i := 15) (some 25) rfl rfl (by kernel_rfl) (by rfl) (by go_simp) (K2.out _ hHeld.2.2.2) ?_
  rintro _ W14 hS6 ⟨E2, q2, rfl, hE2⟩
  clear hHeld
  have hHeld := hS6
  clear hS6
  try simp only [Act.put, List.setIfInBounds_toArray, List.set_cons_zero, List.set_cons_succ]
  refine anyH_call (i := 17) (some 27) rfl rfl (by kernel_rfl) (by rfl) (by go_simp) (O2.out _ E2 q2 hHeld.2.2.2 hE2) (fun W15 hS6 => ?_)
  clear hHeld hE2
  have hHeld := hS6
  clear hS6
  try simp only [Act.put, List.setIfInBounds_toArray, List.set_cons_zero, List.set_cons_succ]
  refine anyH_take (i := 18) (v := ?_) (some 4) rfl rfl (by kernel_rfl) (by kernel_rfl) (by kernel_rfl) (fun _ _ _ h => h) (by rfl) (by assumption) ?_ ?_
  rotate_left
  · intro w hSw; (try dsimp only at hSw); go_split_ands; go_simp; try (with_reducible rfl)
  try simp only [Act.put, List.setIfInBounds_toArray, List.set_cons_zero, List.set_cons_succ]
  refine anyH_take (i := 19) (v := ?_) (some 5) rfl rfl (by kernel_rfl) (by kernel_rfl) (by kernel_rfl) (fun _ _ _ h => h) (by rfl) (by assumption) ?_ ?_
  rotate_left
  · intro w hSw; (try dsimp only at hSw); go_split_ands; go_simp; try (with_reducible rfl)
  try simp only [Act.put, List.setIfInBounds_toArray, List.set_cons_zero, List.set_cons_succ]
  refine anyH_take (i := 20) (v := ?_) (some 6) rfl rfl (by kernel_rfl) (by kernel_rfl) (by kernel_rfl) (fun _ _ _ h => h) (by rfl) (by assumption) ?_ ?_
  rotate_left
  · intro w hSw; (try dsimp only at hSw); go_split_ands; go_simp; try (with_reducible rfl)
  try simp only [Act.put, List.setIfInBounds_toArray, List.set_cons_zero, List.set_cons_succ]
  refine wpAnyH_done (by kernel_rfl) ?_ _
  have hb9 := hb3.trans (hHeld.2.2.2.mono hb3.size)
  clear hHeld SH K0 K1 K2 O0 O1 O2
  go_wp2_with fail
  go_ret3
  exact ⟨rfl, hb9⟩

set_option maxRecDepth 100000 in
set_option maxHeartbeats 12800000 in
theorem Simple_any (v0 v1 v2 v3 v4 v5 : Value) (C : Cse) (x : Int) (w : World) (h : CaseAt w v0 v1 v2 v3 v4 v5 C) (hz : CaseSz C) :
    Calls Try.prog 24 #[.agg #[v0, v1, v2, v3, v4, v5], .int .i64 x] w (RetI3 (sim (caseD C).lower x) (sim (caseD C).upper x) (sim (caseD C).title x) w) := by
  obtain ⟨A0, n0, c0, rfl⟩ := h.lower.sl
  obtain ⟨A1, n1, c1, rfl⟩ := h.upper.sl
  obtain ⟨A2, n2, c2, rfl⟩ := h.title.sl
  obtain ⟨A3, n3, c3, rfl⟩ := h.fold.sl
  obtain ⟨A4, n4, c4, rfl⟩ := h.cased.sl
  obtain ⟨A5, n5, c5, rfl⟩ := h.ign.sl
  have B0 : Below w.heap.size w ((w.alloc (.cells #[.slice A0 n0 c0, .slice A1 n1 c1, .slice A2 n2 c2, .slice A3 n3 c3, .slice A4 n4 c4, .slice A5 n5 c5] 27)).alloc (.cells #[.int .i64 x] 3)) := ((Below.refl _ _).alloc (Nat.le_refl _) _).alloc (by simp) _
  have s0 : ((w.alloc (.cells #[.slice A0 n0 c0, .slice A1 n1 c1, .slice A2 n2 c2, .slice A3 n3 c3, .slice A4 n4 c4, .slice A5 n5 c5] 27)).alloc (.cells #[.int .i64 x] 3)).heap.size = w.heap.size + 2 := by simp
  have X0 : Box ((w.alloc (.cells #[.slice A0 n0 c0, .slice A1 n1 c1, .slice A2 n2 c2, .slice A3 n3 c3, .slice A4 n4 c4, .slice A5 n5 c5] 27)).alloc (.cells #[.int .i64 x] 3)) w.heap.size 27 [.slice A0 n0 c0, .slice A1 n1 c1, .slice A2 n2 c2, .slice A3 n3 c3, .slice A4 n4 c4, .slice A5 n5 c5] := (Box.new w 27 [.slice A0 n0 c0, .slice A1 n1 c1, .slice A2 n2 c2, .slice A3 n3 c3, .slice A4 n4 c4, .slice A5 n5 c5] rfl).alloc _
  have Y0 : Box ((w.alloc (.cells #[.slice A0 n0 c0, .slice A1 n1 c1, .slice A2 n2 c2, .slice A3 n3 c3, .slice A4 n4 c4, .slice A5 n5 c5] 27)).alloc (.cells #[.int .i64 x] 3)) (w.heap.size + 1) 3 [.int .i64 x] := Box.new _ 3 [.int .i64 x] (by simp)
  have W0E : ∃ W0, ((w.alloc (.cells #[.slice A0 n0 c0, .slice A1 n1 c1, .slice A2 n2 c2, .slice A3 n3 c3, .slice A4 n4 c4, .slice A5 n5 c5] 27)).alloc (.cells #[.int .i64 x] 3)) = W0 := ⟨_, rfl⟩
  have VD := Lib.hid (fun W (hb : Below w.heap.size w W) => valid_any _ _ _ _ _ _ C W (h.below hb) hz)
  have CA := Lib.hid (fun W (hb : Below w.heap.size w W) => h.below hb)
  have M0 := Lib.hid (fun W u0 u1 u2 u3 u4 u5 b (hc : CaseAt W u0 u1 u2 u3 u4 u5 (caseD C)) (hx : W.cell? ⟨b, 0, none⟩ = some (.int .i64 x)) => simple1_any u0 (caseD C).lower x b W hc.lower hz.d.lower (caseD_isok C).lower hx)
  have M1 := Lib.hid (fun W u0 u1 u2 u3 u4 u5 b (hc : CaseAt W u0 u1 u2 u3 u4 u5 (caseD C)) (hx : W.cell? ⟨b, 0, none⟩ = some (.int .i64 x)) => simple1_any u1 (caseD C).upper x b W hc.upper hz.d.upper (caseD_isok C).upper hx)
  have M2 := Lib.hid (fun W u0 u1 u2 u3 u4 u5 b (hc : CaseAt W u0 u1 u2 u3 u4 u5 (caseD C)) (hx : W.cell? ⟨b, 0, none⟩ = some (.int .i64 x)) => simple1_any u2 (caseD C).title x b W hc.title hz.d.title (caseD_isok C).title hx)
  have E0 := Lib.hid (show sim (caseD C).lower x = onlyL (mapT (caseD C).lower x) x from rfl)
  have E1 := Lib.hid (show sim (caseD C).upper x = onlyL (mapT (caseD C).upper x) x from rfl)
  have E2 := Lib.hid (show sim (caseD C).title x = onlyL (mapT (caseD C).title x) x from rfl)
  rw [← E0.out] at M0
  rw [← E1.out] at M1
  rw [← E2.out] at M2
  generalize sim (caseD C).lower x = r0 at *
  generalize sim (caseD C).upper x = r1 at *
  generalize sim (caseD C).title x = r2 at *
  clear h hz E0 E1 E2
  have kk := X0.cell (i := 0) rfl
  go_enter Try.func24, Try.ntmps24
  go_wp2_with fail
  clear kk
  obtain ⟨W0, hW0⟩ := W0E
  rw [hW0] at B0 s0 X0 Y0 ⊢
  clear hW0
  have hx0 : w.heap.size < W0.heap.size := by omega
  with_reducible refine (VD.out W0 B0).mono ?_
  rintro e W1 ⟨u0, u1, u2, u3, u4, u5, rfl, hT, hb1⟩
  have hb2 := B0.trans (hb1.mono B0.size)
  have hC1 := hT W1 (CA.out W1 hb2)
  obtain ⟨B0, m0, d0, rfl⟩ := hC1.lower.sl
  obtain ⟨B1, m1, d1, rfl⟩ := hC1.upper.sl
  obtain ⟨B2, m2, d2, rfl⟩ := hC1.title.sl
  obtain ⟨B3, m3, d3, rfl⟩ := hC1.fold.sl
  obtain ⟨B4, m4, d4, rfl⟩ := hC1.cased.sl
  obtain ⟨B5, m5, d5, rfl⟩ := hC1.ign.sl
  have HT := Lib.hid hT
  clear hT hC1 VD
  have X1 := X0.below hb1 hx0
  have f0 := X1.cell (i := 0) rfl
  have f1 := X1.cell (i := 1) rfl
  have f2 := X1.cell (i := 2) rfl
  have f3 := X1.cell (i := 3) rfl
  have f4 := X1.cell (i := 4) rfl
  have f5 := X1.cell (i := 5) rfl
  have z0 := X1.free 0
  have z1 := X1.free 1
  have z2 := X1.free 2
  have z3 := X1.free 3
  have z4 := X1.free 4
  have z5 := X1.free 5
  have hx1 : w.heap.size < W1.heap.size := X1.lt
  have X2 := Lib.hid (show Box ((((((W1.setCell ⟨w.heap.size, 0, none⟩ (.slice B0 m0 d0)).setCell ⟨w.heap.size, 1, none⟩ (.slice B1 m1 d1)).setCell ⟨w.heap.size, 2, none⟩ (.slice B2 m2 d2)).setCell ⟨w.heap.size, 3, none⟩ (.slice B3 m3 d3)).setCell ⟨w.heap.size, 4, none⟩ (.slice B4 m4 d4)).setCell ⟨w.heap.size, 5, none⟩ (.slice B5 m5 d5)) w.heap.size 27 [.slice B0 m0 d0, .slice B1 m1 d1, .slice B2 m2 d2, .slice B3 m3 d3, .slice B4 m4 d4, .slice B5 m5 d5] from ((((((X1.set 0 _).set 1 _).set 2 _).set 3 _).set 4 _).set 5 _))
  have hb3 : Below w.heap.size w ((((((W1.setCell ⟨w.heap.size, 0, none⟩ (.slice B0 m0 d0)).setCell ⟨w.heap.size, 1, none⟩ (.slice B1 m1 d1)).setCell ⟨w.heap.size, 2, none⟩ (.slice B2 m2 d2)).setCell ⟨w.heap.size, 3, none⟩ (.slice B3 m3 d3)).setCell ⟨w.heap.size, 4, none⟩ (.slice B4 m4 d4)).setCell ⟨w.heap.size, 5, none⟩ (.slice B5 m5 d5)) := ((((((hb2.setCell (p := ⟨w.heap.size, 0, none⟩) (Nat.le_refl _) _).setCell (p := ⟨w.heap.size, 1, none⟩) (Nat.le_refl _) _).setCell (p := ⟨w.heap.size, 2, none⟩) (Nat.le_refl _) _).setCell (p := ⟨w.heap.size, 3, none⟩) (Nat.le_refl _) _).setCell (p := ⟨w.heap.size, 4, none⟩) (Nat.le_refl _) _).setCell (p := ⟨w.heap.size, 5, none⟩) (Nat.le_refl _) _)
  have YY := Y0.below hb1 Y0.lt
  have YY := ((((((YY.grown (grown_set _ ⟨w.heap.size, 0, none⟩ (.slice B0 m0 d0)) (by simp)).grown (grown_set _ ⟨w.heap.size, 1, none⟩ (.slice B1 m1 d1)) (by simp)).grown (grown_set _ ⟨w.heap.size, 2, none⟩ (.slice B2 m2 d2)) (by simp)).grown (grown_set _ ⟨w.heap.size, 3, none⟩ (.slice B3 m3 d3)) (by simp)).grown (grown_set _ ⟨w.heap.size, 4, none⟩ (.slice B4 m4 d4)) (by simp)).grown (grown_set _ ⟨w.heap.size, 5, none⟩ (.slice B5 m5 d5)) (by simp))
  have W2E : ∃ W2, ((((((W1.setCell ⟨w.heap.size, 0, none⟩ (.slice B0 m0 d0)).setCell ⟨w.heap.size, 1, none⟩ (.slice B1 m1 d1)).setCell ⟨w.heap.size, 2, none⟩ (.slice B2 m2 d2)).setCell ⟨w.heap.size, 3, none⟩ (.slice B3 m3 d3)).setCell ⟨w.heap.size, 4, none⟩ (.slice B4 m4 d4)).setCell ⟨w.heap.size, 5, none⟩ (.slice B5 m5 d5)) = W2 := ⟨_, rfl⟩
  clear X0 X1
  go_wp2_with fail
  obtain ⟨W2, hW2⟩ := W2E
  rw [hW2] at X2 hb3 YY ⊢
  clear hW2 f0 z0 f1 z1 f2 z2 f3 z3 f4 z4 f5 z5
  have D2 := Lib.hid (HT.out W2 (CA.out W2 hb3))
  have Y2 := Lib.hid YY
  have SH := Lib.hid (fun W' (hb' : Below W2.heap.size W2 W') => show W'.cell? ⟨w.heap.size, 0, none⟩ = some (.slice B0 m0 d0) ∧ W'.cell? ⟨w.heap.size, 1, none⟩ = some (.slice B1 m1 d1) ∧ W'.cell? ⟨w.heap.size, 2, none⟩ = some (.slice B2 m2 d2) ∧ Below W2.heap.size W2 W' from ⟨(X2.out.below hb' X2.out.lt).cell (i := 0) rfl, (X2.out.below hb' X2.out.lt).cell (i := 1) rfl, (X2.out.below hb' X2.out.lt).cell (i := 2) rfl, hb'⟩)
  have K0 := Lib.hid (fun W (hb' : Below W2.heap.size W2 W) => (M0.out W _ _ _ _ _ _ (w.heap.size + 1) (D2.out.below hb') ((Y2.out.below hb' Y2.out.lt).cell (i := 0) rfl)).mono (R' := fun e W' => e = .returned (.int .i64 r0) ∧ (W'.cell? ⟨w.heap.size, 0, none⟩ = some (.slice B0 m0 d0) ∧ W'.cell? ⟨w.heap.size, 1, none⟩ = some (.slice B1 m1 d1) ∧ W'.cell? ⟨w.heap.size, 2, none⟩ = some (.slice B2 m2 d2) ∧ Below W2.heap.size W2 W')) (fun e W' hh => ⟨hh.1, SH.out W' (hb'.trans (hh.2.mono hb'.size))⟩))
  have K1 := Lib.hid (fun W (hb' : Below W2.heap.size W2 W) => (M1.out W _ _ _ _ _ _ (w.heap.size + 1) (D2.out.below hb') ((Y2.out.below hb' Y2.out.lt).cell (i := 0) rfl)).mono (R' := fun e W' => e = .returned (.int .i64 r1) ∧ (W'.cell? ⟨w.heap.size, 0, none⟩ = some (.slice B0 m0 d0) ∧ W'.cell? ⟨w.heap.size, 1, none⟩ = some (.slice B1 m1 d1) ∧ W'.cell? ⟨w.heap.size, 2, none⟩ = some (.slice B2 m2 d2) ∧ Below W2.heap.size W2 W')) (fun e W' hh => ⟨hh.1, SH.out W' (hb'.trans (hh.2.mono hb'.size))⟩))
  have K2 := Lib.hid (fun W (hb' : Below W2.heap.size W2 W) => (M2.out W _ _ _ _ _ _ (w.heap.size + 1) (D2.out.below hb') ((Y2.out.below hb' Y2.out.lt).cell (i := 0) rfl)).mono (R' := fun e W' => e = .returned (.int .i64 r2) ∧ (W'.cell? ⟨w.heap.size, 0, none⟩ = some (.slice B0 m0 d0) ∧ W'.cell? ⟨w.heap.size, 1, none⟩ = some (.slice B1 m1 d1) ∧ W'.cell? ⟨w.heap.size, 2, none⟩ = some (.slice B2 m2 d2) ∧ Below W2.heap.size W2 W')) (fun e W' hh => ⟨hh.1, SH.out W' (hb'.trans (hh.2.mono hb'.size))⟩))
  clear M0 M1 M2 CA HT YY
  go_wp2_with fail
  refine wp_region_held_drew (S := fun W' => W'.cell? ⟨w.heap.size, 0, none⟩ = some (.slice B0 m0 d0) ∧ W'.cell? ⟨w.heap.size, 1, none⟩ = some (.slice B1 m1 d1) ∧ W'.cell? ⟨w.heap.size, 2, none⟩ = some (.slice B2 m2 d2) ∧ Below W2.heap.size W2 W') (by kernel_rfl) (SH.out _ (Below.refl _ _).drew) (fun hHeld => ?_)
  refine anyH_take (i := 0) (v := ?_) (some 11) rfl rfl (by kernel_rfl) (by kernel_rfl) (by kernel_rfl) (fun _ _ _ h => h) (by rfl) (by assumption) ?_ ?_
  rotate_left
  · intro w hSw; (try dsimp only at hSw); go_split_ands; go_simp; try (with_reducible rfl)
  try simp only [Act.put, List.setIfInBounds_toArray, List.set_cons_zero, List.set_cons_succ]
  refine anyH_take (i := 1) (v := ?_) (some 12) rfl rfl (by kernel_rfl) (by kernel_rfl) (by kernel_rfl) (fun _ _ _ h => h) (by rfl) (by assumption) ?_ ?_
  rotate_left
  · intro w hSw; (try dsimp only at hSw); go_split_ands; go_simp; try (with_reducible rfl)
  try simp only [Act.put, List.setIfInBounds_toArray, List.set_cons_zero, List.set_cons_succ]
  refine anyH_take (i := 2) (v := ?_) (some 13) rfl rfl (by kernel_rfl) (by kernel_rfl) (by kernel_rfl) (fun _ _ _ h => h) (by rfl) (by assumption) ?_ ?_
  rotate_left
  · intro w hSw; (try dsimp only at hSw); go_split_ands; go_simp; try (with_reducible rfl)
  try simp only [Act.put, List.setIfInBounds_toArray, List.set_cons_zero, List.set_cons_succ]
  refine anyH_take (i := 4) (v := ?_) (some 15) rfl rfl (by kernel_rfl) (by kernel_rfl) (by kernel_rfl) (fun _ _ _ h => h) (by rfl) (by assumption) ?_ ?_
  rotate_left
  · intro w hSw; (try dsimp only at hSw); go_split_ands; go_simp; try (with_reducible rfl)
  try simp only [Act.put, List.setIfInBounds_toArray, List.set_cons_zero, List.set_cons_succ]
  refine anyH_take (i := 5) (v := ?_) (some 16) rfl rfl (by kernel_rfl) (by kernel_rfl) (by kernel_rfl) (fun _ _ _ h => h) (by rfl) (by assumption) ?_ ?_
  rotate_left
  · intro w hSw; (try dsimp only at hSw); go_split_ands; go_simp; try (with_reducible rfl)
  try simp only [Act.put, List.setIfInBounds_toArray, List.set_cons_zero, List.set_cons_succ]
  refine anyH_take (i := 6) (v := ?_) (some 17) rfl rfl (by kernel_rfl) (by kernel_rfl) (by kernel_rfl) (fun _ _ _ h => h) (by rfl) (by assumption) ?_ ?_
  rotate_left
  · intro w hSw; (try dsimp only at hSw); go_split_ands; go_simp; try (with_reducible rfl)
  try simp only [Act.put, List.setIfInBounds_toArray, List.set_cons_zero, List.set_cons_succ]
  refine anyH_take (i := 8) (v := ?_) (some 19) rfl rfl (by kernel_rfl) (by kernel_rfl) (by kernel_rfl) (fun _ _ _ h => h) (by rfl) (by assumption) ?_ ?_
  rotate_left
  · intro w hSw; (try dsimp only at hSw); go_split_ands; go_simp; try (with_reducible rfl)
  try simp only [Act.put, List.setIfInBounds_toArray, List.set_cons_zero, List.set_cons_succ]
  refine anyH_take (i := 9) (v := ?_) (some 20) rfl rfl (by kernel_rfl) (by kernel_rfl) (by kernel_rfl) (fun _ _ _ h => h) (by rfl) (by assumption) ?_ ?_
  rotate_left
  · intro w hSw; (try dsimp only at hSw); go_split_ands; go_simp; try (with_reducible rfl)
  try simp only [Act.put, List.setIfInBounds_toArray, List.set_cons_zero, List.set_cons_succ]
  refine anyH_take (i := 10) (v := ?_) (some 21) rfl rfl (by kernel_rfl) (by kernel_rfl) (by kernel_rfl) (fun _ _ _ h => h) (by rfl) (by assumption) ?_ ?_
  rotate_left
  · intro w hSw; (try dsimp only at hSw); go_split_ands; go_simp; try (with_reducible rfl)
  try simp only [Act.put, List.setIfInBounds_toArray, List.set_cons_zero, List.set_cons_succ]
  refine anyH_call (i := 3) (some 14) rfl rfl (by kernel_rfl) (by rfl) (by go_simp) (K0.out _ hHeld.2.2.2) (fun W11 hS6 => ?_)
  clear hHeld
  have hHeld := hS6
  clear hS6
  try simp only [Act.put, List.setIfInBounds_toArray, List.set_cons_zero, List.set_cons_succ]
  refine anyH_call (i := 7) (some 18) rfl rfl (by kernel_rfl) (by rfl) (by go_simp) (K1.out _ hHeld.2.2.2) (fun W12 hS6 => ?_)
  clear hHeld
  have hHeld := hS6
  clear hS6
  try simp only [Act.put, List.setIfInBounds_toArray, List.set_cons_zero, List.set_cons_succ]
  refine anyH_call (i := 11) (some 22) rfl rfl (by kernel_rfl) (by rfl) (by go_simp) (K2.out _ hHeld.2.2.2) (fun W13 hS6 => ?_)
  clear hHeld
  have hHeld := hS6
  clear hS6
  try simp only [Act.put, List.setIfInBounds_toArray, List.set_cons_zero, List.set_cons_succ]
  refine anyH_take (i := 12) (v := ?_) (some 4) rfl rfl (by kernel_rfl) (by kernel_rfl) (by kernel_rfl) (fun _ _ _ h => h) (by rfl) (by assumption) ?_ ?_
  rotate_left
  · intro w hSw; (try dsimp only at hSw); go_split_ands; go_simp; try (with_reducible rfl)
  try simp only [Act.put, List.setIfInBounds_toArray, List.set_cons_zero, List.set_cons_succ]
  refine anyH_take (i := 13) (v := ?_) (some 5) rfl rfl (by kernel_rfl) (by kernel_rfl) (by kernel_rfl) (fun _ _ _ h => h) (by rfl) (by assumption) ?_ ?_
  rotate_left
  · intro w hSw; (try dsimp only at hSw); go_split_ands; go_simp; try (with_reducible rfl)
  try simp only [Act.put, List.setIfInBounds_toArray, List.set_cons_zero, List.set_cons_succ]
  refine anyH_take (i := 14) (v := ?_) (some 6) rfl rfl (by kernel_rfl) (by kernel_rfl) (by kernel_rfl) (fun _ _ _ h => h) (by rfl) (by assumption) ?_ ?_
  rotate_left
  · intro w hSw; (try dsimp only at hSw); go_split_ands; go_simp; try (with_reducible rfl)
  try simp only [Act.put, List.setIfInBounds_toArray, List.set_cons_zero, List.set_cons_succ]
  refine wpAnyH_done (by kernel_rfl) ?_ _
  have hb9 := hb3.trans (hHeld.2.2.2.mono hb3.size)
  clear hHeld SH K0 K1 K2
  go_wp2_with fail
  go_ret3
  exact ⟨rfl, hb9⟩

/-- small data -/
def smallC (C : Cse) : Bool := smallM C.lower && (smallM C.upper && (smallM C.title && (smallM C.fold && (decide (C.cased.length ≤ 12) && decide (C.ign.length ≤ 12)))))
theorem smallC_sz {C : Cse} (h : smallC C = true) : CaseSz C := by
  simp only [smallC, Bool.and_eq_true, decide_eq_true_eq] at h
  obtain ⟨h0, h1, h2, h3, h4, h5⟩ := h
  exact ⟨(smallM_sz h0).1, (smallM_sz h1).1, (smallM_sz h2).1, (smallM_sz h3).1, h4, h5⟩
/-- lengths that a slice can have -/
def MpsLn (ms : List Mp) : Prop := ms.length ≤ 9223372036854775807 ∧ ∀ i, (hi : i < ms.length) → ms[i].to.length ≤ 9223372036854775807 ∧ ms[i].tag.size ≤ 9223372036854775807
structure CaseLn (C : Cse) : Prop where
  lower : MpsLn C.lower
  upper : MpsLn C.upper
  title : MpsLn C.title
  fold : MpsLn C.fold
  cased : C.cased.length ≤ 9223372036854775807
  ign : C.ign.length ≤ 9223372036854775807
theorem MpsV.small {w : World} {v : Value} {ms : List Mp} (h : MpsV w v ms) (hl : MpsLn ms) : Calls Try.prog 30 #[v] w (fun e w' => e = .returned (.bool (smallM ms)) ∧ w = w') := by
  obtain ⟨A, c, rfl, _, hM⟩ := h
  exact smallM_any A ms.length c ms w hM rfl hl.1 hl.2
theorem RgsV.small {w : World} {v : Value} {rs : List Rg} (h : RgsV w v rs) (hl : rs.length ≤ 9223372036854775807) : Calls Try.prog 31 #[.agg #[v]] w (RetBool (decide (rs.length ≤ 12)) w) := by
  obtain ⟨A, c, rfl, _, hR⟩ := h
  exact refSmallS_any A rs.length c w hl
set_option maxRecDepth 100000 in
set_option maxHeartbeats 12800000 in
theorem smallC_any (v0 v1 v2 v3 v4 v5 : Value) (C : Cse) (w : World) (h : CaseAt w v0 v1 v2 v3 v4 v5 C) (hl : CaseLn C) :
    Calls Try.prog 12 #[.agg #[v0, v1, v2, v3, v4, v5]] w (RetBool (smallC C) w) := by
  obtain ⟨A0, n0, c0, rfl⟩ := h.lower.sl
  obtain ⟨A1, n1, c1, rfl⟩ := h.upper.sl
  obtain ⟨A2, n2, c2, rfl⟩ := h.title.sl
  obtain ⟨A3, n3, c3, rfl⟩ := h.fold.sl
  obtain ⟨A4, n4, c4, rfl⟩ := h.cased.sl
  obtain ⟨A5, n5, c5, rfl⟩ := h.ign.sl
  have B0 : Below w.heap.size w (w.alloc (.cells #[.slice A0 n0 c0, .slice A1 n1 c1, .slice A2 n2 c2, .slice A3 n3 c3, .slice A4 n4 c4, .slice A5 n5 c5] 27)) := (Below.refl _ _).alloc (Nat.le_refl _) _
  have X0 : Box (w.alloc (.cells #[.slice A0 n0 c0, .slice A1 n1 c1, .slice A2 n2 c2, .slice A3 n3 c3, .slice A4 n4 c4, .slice A5 n5 c5] 27)) w.heap.size 27 [.slice A0 n0 c0, .slice A1 n1 c1, .slice A2 n2 c2, .slice A3 n3 c3, .slice A4 n4 c4, .slice A5 n5 c5] := Box.new w 27 [.slice A0 n0 c0, .slice A1 n1 c1, .slice A2 n2 c2, .slice A3 n3 c3, .slice A4 n4 c4, .slice A5 n5 c5] rfl
  have W0E : ∃ W0, (w.alloc (.cells #[.slice A0 n0 c0, .slice A1 n1 c1, .slice A2 n2 c2, .slice A3 n3 c3, .slice A4 n4 c4, .slice A5 n5 c5] 27)) = W0 := ⟨_, rfl⟩
  have CA := Lib.hid (fun W (hb : Below w.heap.size w W) => h.below hb)
  have K0 := Lib.hid (fun W (hb : Below w.heap.size w W) => (h.below hb).lower.small hl.lower)
  have K1 := Lib.hid (fun W (hb : Below w.heap.size w W) => (h.below hb).upper.small hl.upper)
  have K2 := Lib.hid (fun W (hb : Below w.heap.size w W) => (h.below hb).title.small hl.title)
  have K3 := Lib.hid (fun W (hb : Below w.heap.size w W) => (h.below hb).fold.small hl.fold)
  have K4 := Lib.hid (fun W (hb : Below w.heap.size w W) => (h.below hb).cased.small hl.cased)
  have K5 := Lib.hid (fun W (hb : Below w.heap.size w W) => (h.below hb).ign.small hl.ign)
  have E := Lib.hid (show smallC C = (smallM C.lower && (smallM C.upper && (smallM C.title && (smallM C.fold && (decide (C.cased.length ≤ 12) && decide (C.ign.length ≤ 12)))))) from rfl)
  generalize smallC C = R at *
  generalize smallM C.lower = s0 at *
  generalize smallM C.upper = s1 at *
  generalize smallM C.title = s2 at *
  generalize smallM C.fold = s3 at *
  generalize decide (C.cased.length ≤ 12) = s4 at *
  generalize decide (C.ign.length ≤ 12) = s5 at *
  obtain rfl := E.out
  clear E h hl CA
  have e0 := X0.cell (i := 0) rfl
  have e1 := X0.cell (i := 1) rfl
  have e2 := X0.cell (i := 2) rfl
  have e3 := X0.cell (i := 3) rfl
  have e4 := X0.cell (i := 4) rfl
  have e5 := X0.cell (i := 5) rfl
  have hl0 := X0.lt
  go_enter Try.func12, Try.ntmps12
  go_wp2_with fail
  clear e0 e1 e2 e3 e4 e5
  obtain ⟨W0, hW0⟩ := W0E
  rw [hW0] at B0 X0 ⊢
  clear hW0
  have e0 := X0.cell (i := 0) rfl
  have e1 := X0.cell (i := 1) rfl
  have e2 := X0.cell (i := 2) rfl
  have e3 := X0.cell (i := 3) rfl
  have e4 := X0.cell (i := 4) rfl
  have e5 := X0.cell (i := 5) rfl
  have hl1 := X0.lt
  with_reducible refine (K0.out W0 B0).mono ?_
  rintro e W' ⟨rfl, rfl⟩
  cases s0 with
  | false =>
    go_wp2_with fail
    go_ret
    exact ⟨rfl, B0⟩
  | true =>
    go_wp2_with fail
    with_reducible refine (K1.out W0 B0).mono ?_
    rintro e W' ⟨rfl, rfl⟩
    cases s1 with
    | false =>
      go_wp2_with fail
      go_ret
      exact ⟨rfl, B0⟩
    | true =>
      go_wp2_with fail
      with_reducible refine (K2.out W0 B0).mono ?_
      rintro e W' ⟨rfl, rfl⟩
      cases s2 with
      | false =>
        go_wp2_with fail
        go_ret
        exact ⟨rfl, B0⟩
      | true =>
        go_wp2_with fail
        with_reducible refine (K3.out W0 B0).mono ?_
        rintro e W' ⟨rfl, rfl⟩
        cases s3 with
        | false =>
          go_wp2_with fail
          go_ret
          exact ⟨rfl, B0⟩
        | true =>
          go_wp2_with fail
          with_reducible refine (K4.out W0 B0).mono ?_
          rintro e W1 ⟨rfl, hb1⟩
          have hb2 := B0.trans (hb1.mono B0.size)
          have f5 := (X0.below hb1 X0.lt).cell (i := 5) rfl
          have hl2 := (X0.below hb1 X0.lt).lt
          clear e0 e1 e2 e3 e4 e5
          cases s4 with
          | false =>
            go_wp2_with fail
            go_ret
            exact ⟨rfl, hb2⟩
          | true =>
            go_wp2_with fail
            with_reducible refine (K5.out W1 hb2).mono ?_
            rintro e W2 ⟨rfl, hb3⟩
            have hb4 := hb2.trans (hb3.mono hb2.size)
            clear f5
            go_wp2_with fail
            go_ret
            exact ⟨rfl, hb4⟩

def fewT (C : Cse) (t : List Int) : Bool := smallC C && decide (t.length ≤ 40)
theorem fewT_sz {C : Cse} {t : List Int} (h : fewT C t = true) : CaseSz C ∧ t.length ≤ 40 := by
  simp only [fewT, Bool.and_eq_true, decide_eq_true_eq] at h
  exact ⟨smallC_sz h.1, h.2⟩
set_option maxRecDepth 100000 in
set_option maxHeartbeats 6400000 in
theorem few_any (v0 v1 v2 v3 v4 v5 : Value) (C : Cse) (A : Option Addr) (n a : Nat) (t : List Int) (w : World) (h : CaseAt w v0 v1 v2 v3 v4 v5 C) (hl : CaseLn C) (hn : t.length = n) (hb : n ≤ 9223372036854775807) :
    Calls Try.prog 16 #[.agg #[v0, v1, v2, v3, v4, v5], .slice A n a] w (RetBool (fewT C t) w) := by
  subst hn
  obtain ⟨A0, n0, c0, rfl⟩ := h.lower.sl
  obtain ⟨A1, n1, c1, rfl⟩ := h.upper.sl
  obtain ⟨A2, n2, c2, rfl⟩ := h.title.sl
  obtain ⟨A3, n3, c3, rfl⟩ := h.fold.sl
  obtain ⟨A4, n4, c4, rfl⟩ := h.cased.sl
  obtain ⟨A5, n5, c5, rfl⟩ := h.ign.sl
  have B0 : Below w.heap.size w (w.alloc (.cells #[.slice A0 n0 c0, .slice A1 n1 c1, .slice A2 n2 c2, .slice A3 n3 c3, .slice A4 n4 c4, .slice A5 n5 c5] 27)) := (Below.refl _ _).alloc (Nat.le_refl _) _
  have X0 : Box (w.alloc (.cells #[.slice A0 n0 c0, .slice A1 n1 c1, .slice A2 n2 c2, .slice A3 n3 c3, .slice A4 n4 c4, .slice A5 n5 c5] 27)) w.heap.size 27 [.slice A0 n0 c0, .slice A1 n1 c1, .slice A2 n2 c2, .slice A3 n3 c3, .slice A4 n4 c4, .slice A5 n5 c5] := Box.new w 27 [.slice A0 n0 c0, .slice A1 n1 c1, .slice A2 n2 c2, .slice A3 n3 c3, .slice A4 n4 c4, .slice A5 n5 c5] rfl
  have W0E : ∃ W0, (w.alloc (.cells #[.slice A0 n0 c0, .slice A1 n1 c1, .slice A2 n2 c2, .slice A3 n3 c3, .slice A4 n4 c4, .slice A5 n5 c5] 27)) = W0 := ⟨_, rfl⟩
  have CA := Lib.hid (fun W (hb : Below w.heap.size w W) => h.below hb)
  have K := Lib.hid (fun W (hb : Below w.heap.size w W) => smallC_any _ _ _ _ _ _ C W (h.below hb) hl)
  have E := Lib.hid (show fewT C t = (smallC C && decide (t.length ≤ 40)) from rfl)
  generalize fewT C t = R at *
  generalize smallC C = s0 at *
  obtain rfl := E.out
  clear E h hl CA
  have e0 := X0.cell (i := 0) rfl
  have e1 := X0.cell (i := 1) rfl
  have e2 := X0.cell (i := 2) rfl
  have e3 := X0.cell (i := 3) rfl
  have e4 := X0.cell (i := 4) rfl
  have e5 := X0.cell (i := 5) rfl
  have hl0 := X0.lt
  go_enter Try.func16, Try.ntmps16
  go_wp2_with fail
  clear e0 e1 e2 e3 e4 e5
  obtain ⟨W0, hW0⟩ := W0E
  rw [hW0] at B0 X0 ⊢
  clear hW0
  with_reducible refine (K.out W0 B0).mono ?_
  rintro e W1 ⟨rfl, hb1⟩
  have hb2 := B0.trans (hb1.mono B0.size)
  cases s0 with
  | false =>
    go_wp2_with fail
    go_ret
    exact ⟨rfl, hb2⟩
  | true =>
    go_wp2_with fail
    go_ret
    exact ⟨ret_bool (by rw [Bool.true_and, decide_eq_decide]; omega), hb2⟩

end Go.Proofs.Ytpamkbbmbeeheaa
