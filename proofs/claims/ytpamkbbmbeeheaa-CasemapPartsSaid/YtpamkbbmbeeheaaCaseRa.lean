/- The contracts of the reference's near, final, Final, mapped and lower. Written by gen_casera.py. -/
import Derived.Test.YtpamkbbmbeeheaaCaseL
namespace Go.Proofs.Ytpamkbbmbeeheaa
open Go.RowKit Go.Maps Go.WideMaps

theorem RgsV.has {w : World} {v : Value} {rs : List Rg} (h : RgsV w v rs) (hz : rs.length ≤ 12) (x : Int) : Calls Try.prog 28 #[.agg #[v], .int .i64 x] w (RetBool (hasR rs x) w) := by
  obtain ⟨A, c, rfl, _, hR⟩ := h
  exact refHas_any A rs.length c rs x w hR rfl (by omega)
theorem MpsV.get {w : World} {v : Value} {ms : List Mp} (h : MpsV w v ms) (hz : MpsSz ms) (hok : mapErr ms = 0) (x : Int) (tag : ByteArray) : Calls Try.prog 69 #[v, .int .i64 x, .string tag] w (RetGet (getM ms x tag) w) := by
  obtain ⟨A, c, rfl, _, hM⟩ := h
  have := refMapGet_any A ms.length c ms x tag w hM rfl hz
  rw [getV_ok hok] at this
  exact this

set_option maxRecDepth 100000 in
set_option maxHeartbeats 6400000 in
theorem nearDown_any (v0 v1 v2 v3 v4 v5 : Value) (C : Cse) (A : Option Addr) (n a : Nat) (t : List Int) (k : Nat) (w : World) (h : CaseAt w v0 v1 v2 v3 v4 v5 C) (hz : CaseSz C) (hA : Ints w A t) (hn : t.length = n) (hb : n ≤ 1048576) (hk : k ≤ n) :
    Calls Try.prog 68 #[.agg #[v0, v1, v2, v3, v4, v5], .slice A n a, .int .i64 ((k : Int) - 1), .int .i64 (-1)] w (RetBool (nearC C (t.take k).reverse) w) := by
  subst hn
  obtain ⟨A0, n0, c0, rfl⟩ := h.lower.sl
  obtain ⟨A1, n1, c1, rfl⟩ := h.upper.sl
  obtain ⟨A2, n2, c2, rfl⟩ := h.title.sl
  obtain ⟨A3, n3, c3, rfl⟩ := h.fold.sl
  obtain ⟨A4, n4, c4, rfl⟩ := h.cased.sl
  obtain ⟨A5, n5, c5, rfl⟩ := h.ign.sl
  have B0 : Below w.heap.size w (w.alloc (.cells #[.slice A0 n0 c0, .slice A1 n1 c1, .slice A2 n2 c2, .slice A3 n3 c3, .slice A4 n4 c4, .slice A5 n5 c5] 27)) := (Below.refl _ _).alloc (Nat.le_refl _) _
  have X0 : Box (w.alloc (.cells #[.slice A0 n0 c0, .slice A1 n1 c1, .slice A2 n2 c2, .slice A3 n3 c3, .slice A4 n4 c4, .slice A5 n5 c5] 27)) w.heap.size 27 [.slice A0 n0 c0, .slice A1 n1 c1, .slice A2 n2 c2, .slice A3 n3 c3, .slice A4 n4 c4, .slice A5 n5 c5] := Box.new w 27 [.slice A0 n0 c0, .slice A1 n1 c1, .slice A2 n2 c2, .slice A3 n3 c3, .slice A4 n4 c4, .slice A5 n5 c5] rfl
  have W0E : ∃ W0, (w.alloc (.cells #[.slice A0 n0 c0, .slice A1 n1 c1, .slice A2 n2 c2, .slice A3 n3 c3, .slice A4 n4 c4, .slice A5 n5 c5] 27)) = W0 := ⟨_, rfl⟩
  have CA := Lib.hid (fun W (hb : Below w.heap.size w W) => h.below hb)
  have HI := Lib.hid (fun W x (hb' : Below w.heap.size w W) => (h.below hb').ign.has hz.ign x)
  have HC := Lib.hid (fun W x (hb' : Below w.heap.size w W) => (h.below hb').cased.has hz.cased x)
  have HA := Lib.hid (fun W (hb' : Below w.heap.size w W) => hA.below hb')
  have NU := Lib.hid (fun i hi => nearC_up C (t := t) (i := i) hi)
  have NE := Lib.hid (show nearC C (t.take 0).reverse = false by rfl)
  obtain ⟨R, hR0⟩ : ∃ R, nearC C (t.take k).reverse = R := ⟨_, rfl⟩
  rw [hR0]
  have RK := Lib.hid hR0
  clear hR0 h hz hA CA
  rw [← dn_eq]
  go_enter Try.func68, Try.ntmps68
  go_wp2_with fail
  obtain ⟨W0, hW0⟩ := W0E
  rw [hW0] at B0 X0 ⊢
  clear hW0
  have HX := Lib.hid X0
  have hl0 := X0.lt
  clear X0
  go_loopw [2] (fun u wr => ∃ m : Nat, m ≤ t.length ∧ u = .int .i64 (dn m) ∧ nearC C (t.take m).reverse = R ∧ Below W0.heap.size W0 wr) (fun u _ => (intOf u + 1).toNat)
  case atStart => exact ⟨k, hk, rfl, RK.out, Below.refl _ _⟩
  case round =>
    obtain ⟨m', hm', rfl, hR, hbr⟩ := hrel
    have HR := Lib.hid hR
    clear hR RK
    have hbw := B0.trans (hbr.mono B0.size)
    cases m' with
    | zero =>
      simp only [dn]
      obtain rfl := (HR.out.symm.trans NE.out)
      go_wp2_with fail
      go_ret
      exact ⟨rfl, hbw⟩
    | succ m =>
      have hm : m < t.length := by omega
      obtain ⟨b1, o1, rfl, hcell⟩ := (HA.out wr hbw).at hm
      have d0 := hcell m hm
      have NUm := Lib.hid (NU.out m hm)
      have ci0 : (0 : Int) ≤ m := by omega
      have ci1 : (m : Int) < t.length := by omega
      clear hcell
      generalize t[m] = tm at *
      have qn : IntKind.i64.wrap ((m : Int) + (-1)) = (m : Int) + (-1) := IntWalk.i64_in _ (by omega)
      have lb := World.block_lt_of_cell? wr _ d0
      have SI := Lib.hid (fun W' (hb' : Below wr.heap.size wr W') => show W'.cell? ⟨w.heap.size, 5, none⟩ = some (.slice A5 n5 c5) ∧ W'.cell? ⟨b1, o1 + m, none⟩ = some (.int .i64 tm) ∧ Below W0.heap.size W0 W' from ⟨(HX.out.below (hbr.trans (hb'.mono hbr.size)) HX.out.lt).cell (i := 5) rfl, (hb'.cell (p := ⟨b1, o1 + m, none⟩) lb).trans d0, hbr.trans (hb'.mono hbr.size)⟩)
      have SC := Lib.hid (fun W' (hb' : Below W0.heap.size W0 W') (hd : W'.cell? ⟨b1, o1 + m, none⟩ = some (.int .i64 tm)) => show W'.cell? ⟨w.heap.size, 4, none⟩ = some (.slice A4 n4 c4) ∧ W'.cell? ⟨b1, o1 + m, none⟩ = some (.int .i64 tm) ∧ Below W0.heap.size W0 W' from ⟨(HX.out.below hb' HX.out.lt).cell (i := 4) rfl, hd, hb'⟩)
      have KI := Lib.hid ((HI.out wr.drew tm hbw.drew).mono (R' := fun e W' => e = .returned (.bool (hasR C.ign tm)) ∧ (W'.cell? ⟨w.heap.size, 5, none⟩ = some (.slice A5 n5 c5) ∧ W'.cell? ⟨b1, o1 + m, none⟩ = some (.int .i64 tm) ∧ Below W0.heap.size W0 W')) (fun e W' hh => ⟨hh.1, SI.out W' (Below.trans (Below.refl _ _).drew hh.2)⟩))
      generalize hasR C.ign tm = qi at *
      simp only [dn]
      go_wp2_with fail
      refine wp_region_held_drew (S := fun W' => W'.cell? ⟨w.heap.size, 5, none⟩ = some (.slice A5 n5 c5) ∧ W'.cell? ⟨b1, o1 + m, none⟩ = some (.int .i64 tm) ∧ Below W0.heap.size W0 W') (by kernel_rfl) (SI.out _ (Below.refl _ _).drew) (fun hHeld => ?_)
      refine anyH_take (i := 0) (v := ?_) (some 17) rfl rfl (by kernel_rfl) (by kernel_rfl) (by kernel_rfl) (fun _ _ _ h => h) (by rfl) (by assumption) ?_ ?_
      rotate_left
      · intro w hSw; (try dsimp only at hSw); go_split_ands; go_simp; try (with_reducible rfl)
      try simp only [Act.put, List.setIfInBounds_toArray, List.set_cons_zero, List.set_cons_succ]
      refine anyH_take (i := 1) (v := ?_) (some 18) rfl rfl (by kernel_rfl) (by kernel_rfl) (by kernel_rfl) (fun _ _ _ h => h) (by rfl) (by assumption) ?_ ?_
      rotate_left
      · intro w hSw; (try dsimp only at hSw); go_split_ands; go_simp; try (with_reducible rfl)
      try simp only [Act.put, List.setIfInBounds_toArray, List.set_cons_zero, List.set_cons_succ]
      refine anyH_take (i := 2) (v := ?_) (some 19) rfl rfl (by kernel_rfl) (by kernel_rfl) (by kernel_rfl) (fun _ _ _ h => h) (by rfl) (by assumption) ?_ ?_
      rotate_left
      · intro w hSw; (try dsimp only at hSw); go_split_ands; go_simp; try (with_reducible rfl)
      try simp only [Act.put, List.setIfInBounds_toArray, List.set_cons_zero, List.set_cons_succ]
      refine anyH_take (i := 3) (v := ?_) (some 20) rfl rfl (by kernel_rfl) (by kernel_rfl) (by kernel_rfl) (fun _ _ _ h => h) (by rfl) (by assumption) ?_ ?_
      rotate_left
      · intro w hSw; (try dsimp only at hSw); go_split_ands; go_simp; try (with_reducible rfl)
      try simp only [Act.put, List.setIfInBounds_toArray, List.set_cons_zero, List.set_cons_succ]
      refine anyH_take (i := 4) (v := ?_) (some 21) rfl rfl (by kernel_rfl) (by kernel_rfl) (by kernel_rfl) (fun _ _ _ h => h) (by rfl) (by assumption) ?_ ?_
      rotate_left
      · intro w hSw; (try dsimp only at hSw); go_split_ands; go_simp; try (with_reducible rfl)
      try simp only [Act.put, List.setIfInBounds_toArray, List.set_cons_zero, List.set_cons_succ]
      refine anyH_take (i := 5) (v := ?_) (some 22) rfl rfl (by kernel_rfl) (by kernel_rfl) (by kernel_rfl) (fun _ _ _ h => h) (by rfl) (by assumption) ?_ ?_
      rotate_left
      · intro w hSw; (try dsimp only at hSw); go_split_ands; go_simp; try (with_reducible rfl)
      try simp only [Act.put, List.setIfInBounds_toArray, List.set_cons_zero, List.set_cons_succ]
      refine anyH_call (i := 6) (some 23) rfl rfl (by kernel_rfl) (by rfl) (by go_simp) KI.out (fun W3 hS6 => ?_)
      clear hHeld
      have hHeld := hS6
      clear hS6
      try simp only [Act.put, List.setIfInBounds_toArray, List.set_cons_zero, List.set_cons_succ]
      refine anyH_take (i := 7) (v := ?_) (some 24) rfl rfl (by kernel_rfl) (by kernel_rfl) (by kernel_rfl) (fun _ _ _ h => h) (by rfl) (by assumption) ?_ ?_
      rotate_left
      · intro w hSw; (try dsimp only at hSw); go_split_ands; go_simp; try (with_reducible rfl)
      try simp only [Act.put, List.setIfInBounds_toArray, List.set_cons_zero, List.set_cons_succ]
      refine wpAnyH_done (by kernel_rfl) ?_ _
      obtain ⟨_, d3, hb3⟩ := hHeld
      have hb4 := B0.trans (hb3.mono B0.size)
      clear KI SI d0 lb
      cases qi with
      | true =>
        rw [if_pos rfl] at NUm
        go_wp2_with fail
        go_roundw
        case rel => exact ⟨m, by omega, congrArg (Value.int IntKind.i64) (show (m : Int) + -1 = dn m by rw [dn_eq]; omega), NUm.out.symm.trans HR.out, hb3⟩
        case measure => simp [intOf]; omega
      | false =>
        rw [if_neg (by simp)] at NUm
        have HR2 := Lib.hid (NUm.out.symm.trans HR.out)
        have KC := Lib.hid ((HC.out W3.drew tm hb4.drew).mono (R' := fun e W' => e = .returned (.bool (hasR C.cased tm)) ∧ (W'.cell? ⟨w.heap.size, 4, none⟩ = some (.slice A4 n4 c4) ∧ W'.cell? ⟨b1, o1 + m, none⟩ = some (.int .i64 tm) ∧ Below W0.heap.size W0 W')) (fun e W' hh => ⟨hh.1, SC.out W' (hb3.trans ((Below.trans (Below.refl _ _).drew hh.2).mono hb3.size)) ((hh.2.cell (p := ⟨b1, o1 + m, none⟩) (World.block_lt_of_cell? W3 _ d3)).trans d3)⟩))
        generalize hasR C.cased tm = qc at *
        obtain rfl := HR2.out
        clear HR2
        go_wp2_with fail
        refine wp_region_held_drew (S := fun W' => W'.cell? ⟨w.heap.size, 4, none⟩ = some (.slice A4 n4 c4) ∧ W'.cell? ⟨b1, o1 + m, none⟩ = some (.int .i64 tm) ∧ Below W0.heap.size W0 W') (by kernel_rfl) (SC.out _ hb3.drew d3) (fun hHeld => ?_)
        refine anyH_take (i := 0) (v := ?_) (some 25) rfl rfl (by kernel_rfl) (by kernel_rfl) (by kernel_rfl) (fun _ _ _ h => h) (by rfl) (by assumption) ?_ ?_
        rotate_left
        · intro w hSw; (try dsimp only at hSw); go_split_ands; go_simp; try (with_reducible rfl)
        try simp only [Act.put, List.setIfInBounds_toArray, List.set_cons_zero, List.set_cons_succ]
        refine anyH_take (i := 1) (v := ?_) (some 26) rfl rfl (by kernel_rfl) (by kernel_rfl) (by kernel_rfl) (fun _ _ _ h => h) (by rfl) (by assumption) ?_ ?_
        rotate_left
        · intro w hSw; (try dsimp only at hSw); go_split_ands; go_simp; try (with_reducible rfl)
        try simp only [Act.put, List.setIfInBounds_toArray, List.set_cons_zero, List.set_cons_succ]
        refine anyH_take (i := 2) (v := ?_) (some 27) rfl rfl (by kernel_rfl) (by kernel_rfl) (by kernel_rfl) (fun _ _ _ h => h) (by rfl) (by assumption) ?_ ?_
        rotate_left
        · intro w hSw; (try dsimp only at hSw); go_split_ands; go_simp; try (with_reducible rfl)
        try simp only [Act.put, List.setIfInBounds_toArray, List.set_cons_zero, List.set_cons_succ]
        refine anyH_take (i := 3) (v := ?_) (some 28) rfl rfl (by kernel_rfl) (by kernel_rfl) (by kernel_rfl) (fun _ _ _ h => h) (by rfl) (by assumption) ?_ ?_
        rotate_left
        · intro w hSw; (try dsimp only at hSw); go_split_ands; go_simp; try (with_reducible rfl)
        try simp only [Act.put, List.setIfInBounds_toArray, List.set_cons_zero, List.set_cons_succ]
        refine anyH_take (i := 4) (v := ?_) (some 29) rfl rfl (by kernel_rfl) (by kernel_rfl) (by kernel_rfl) (fun _ _ _ h => h) (by rfl) (by assumption) ?_ ?_
        rotate_left
        · intro w hSw; (try dsimp only at hSw); go_split_ands; go_simp; try (with_reducible rfl)
        try simp only [Act.put, List.setIfInBounds_toArray, List.set_cons_zero, List.set_cons_succ]
        refine anyH_take (i := 5) (v := ?_) (some 30) rfl rfl (by kernel_rfl) (by kernel_rfl) (by kernel_rfl) (fun _ _ _ h => h) (by rfl) (by assumption) ?_ ?_
        rotate_left
        · intro w hSw; (try dsimp only at hSw); go_split_ands; go_simp; try (with_reducible rfl)
        try simp only [Act.put, List.setIfInBounds_toArray, List.set_cons_zero, List.set_cons_succ]
        refine anyH_call (i := 6) (some 31) rfl rfl (by kernel_rfl) (by rfl) (by go_simp) KC.out (fun W4 hS6 => ?_)
        clear hHeld
        have hHeld := hS6
        clear hS6
        try simp only [Act.put, List.setIfInBounds_toArray, List.set_cons_zero, List.set_cons_succ]
        refine anyH_take (i := 7) (v := ?_) (some 8) rfl rfl (by kernel_rfl) (by kernel_rfl) (by kernel_rfl) (fun _ _ _ h => h) (by rfl) (by assumption) ?_ ?_
        rotate_left
        · intro w hSw; (try dsimp only at hSw); go_split_ands; go_simp; try (with_reducible rfl)
        try simp only [Act.put, List.setIfInBounds_toArray, List.set_cons_zero, List.set_cons_succ]
        refine wpAnyH_done (by kernel_rfl) ?_ _
        have hb5 := B0.trans (hHeld.2.2.mono B0.size)
        clear KC hHeld
        go_wp2_with fail
        go_ret
        exact ⟨rfl, hb5⟩

set_option maxRecDepth 100000 in
set_option maxHeartbeats 6400000 in
theorem nearUp_any (v0 v1 v2 v3 v4 v5 : Value) (C : Cse) (A : Option Addr) (n a : Nat) (t : List Int) (k : Nat) (w : World) (h : CaseAt w v0 v1 v2 v3 v4 v5 C) (hz : CaseSz C) (hA : Ints w A t) (hn : t.length = n) (hb : n ≤ 1048576) (hk : k ≤ n) :
    Calls Try.prog 68 #[.agg #[v0, v1, v2, v3, v4, v5], .slice A n a, .int .i64 (k), .int .i64 1] w (RetBool (nearC C (t.drop k)) w) := by
  subst hn
  obtain ⟨A0, n0, c0, rfl⟩ := h.lower.sl
  obtain ⟨A1, n1, c1, rfl⟩ := h.upper.sl
  obtain ⟨A2, n2, c2, rfl⟩ := h.title.sl
  obtain ⟨A3, n3, c3, rfl⟩ := h.fold.sl
  obtain ⟨A4, n4, c4, rfl⟩ := h.cased.sl
  obtain ⟨A5, n5, c5, rfl⟩ := h.ign.sl
  have B0 : Below w.heap.size w (w.alloc (.cells #[.slice A0 n0 c0, .slice A1 n1 c1, .slice A2 n2 c2, .slice A3 n3 c3, .slice A4 n4 c4, .slice A5 n5 c5] 27)) := (Below.refl _ _).alloc (Nat.le_refl _) _
  have X0 : Box (w.alloc (.cells #[.slice A0 n0 c0, .slice A1 n1 c1, .slice A2 n2 c2, .slice A3 n3 c3, .slice A4 n4 c4, .slice A5 n5 c5] 27)) w.heap.size 27 [.slice A0 n0 c0, .slice A1 n1 c1, .slice A2 n2 c2, .slice A3 n3 c3, .slice A4 n4 c4, .slice A5 n5 c5] := Box.new w 27 [.slice A0 n0 c0, .slice A1 n1 c1, .slice A2 n2 c2, .slice A3 n3 c3, .slice A4 n4 c4, .slice A5 n5 c5] rfl
  have W0E : ∃ W0, (w.alloc (.cells #[.slice A0 n0 c0, .slice A1 n1 c1, .slice A2 n2 c2, .slice A3 n3 c3, .slice A4 n4 c4, .slice A5 n5 c5] 27)) = W0 := ⟨_, rfl⟩
  have CA := Lib.hid (fun W (hb : Below w.heap.size w W) => h.below hb)
  have HI := Lib.hid (fun W x (hb' : Below w.heap.size w W) => (h.below hb').ign.has hz.ign x)
  have HC := Lib.hid (fun W x (hb' : Below w.heap.size w W) => (h.below hb').cased.has hz.cased x)
  have HA := Lib.hid (fun W (hb' : Below w.heap.size w W) => hA.below hb')
  have NU := Lib.hid (fun i hi => nearC_down C (t := t) (i := i) hi)
  have NE := Lib.hid (show nearC C (t.drop t.length) = false by rw [List.drop_length]; rfl)
  obtain ⟨R, hR0⟩ : ∃ R, nearC C (t.drop k) = R := ⟨_, rfl⟩
  rw [hR0]
  have RK := Lib.hid hR0
  clear hR0 h hz hA CA
  go_enter Try.func68, Try.ntmps68
  go_wp2_with fail
  obtain ⟨W0, hW0⟩ := W0E
  rw [hW0] at B0 X0 ⊢
  clear hW0
  have HX := Lib.hid X0
  have hl0 := X0.lt
  clear X0
  go_loopw [2] (fun u wr => ∃ m : Nat, m ≤ t.length ∧ u = .int .i64 m ∧ nearC C (t.drop m) = R ∧ Below W0.heap.size W0 wr) (fun u _ => t.length - (intOf u).toNat)
  case atStart => exact ⟨k, hk, rfl, RK.out, Below.refl _ _⟩
  case round =>
    obtain ⟨m', hm', rfl, hR, hbr⟩ := hrel
    have HR := Lib.hid hR
    clear hR RK
    have hbw := B0.trans (hbr.mono B0.size)
    by_cases hlt : m' < t.length
    · obtain ⟨m, rfl⟩ : ∃ m, m = m' := ⟨_, rfl⟩
      have hm : m < t.length := by omega
      obtain ⟨b1, o1, rfl, hcell⟩ := (HA.out wr hbw).at hm
      have d0 := hcell m hm
      have NUm := Lib.hid (NU.out m hm)
      have ci0 : (0 : Int) ≤ m := by omega
      have ci1 : (m : Int) < t.length := by omega
      clear hcell
      generalize t[m] = tm at *
      have qn : IntKind.i64.wrap ((m : Int) + 1) = (m : Int) + 1 := IntWalk.i64_in _ (by omega)
      have lb := World.block_lt_of_cell? wr _ d0
      have SI := Lib.hid (fun W' (hb' : Below wr.heap.size wr W') => show W'.cell? ⟨w.heap.size, 5, none⟩ = some (.slice A5 n5 c5) ∧ W'.cell? ⟨b1, o1 + m, none⟩ = some (.int .i64 tm) ∧ Below W0.heap.size W0 W' from ⟨(HX.out.below (hbr.trans (hb'.mono hbr.size)) HX.out.lt).cell (i := 5) rfl, (hb'.cell (p := ⟨b1, o1 + m, none⟩) lb).trans d0, hbr.trans (hb'.mono hbr.size)⟩)
      have SC := Lib.hid (fun W' (hb' : Below W0.heap.size W0 W') (hd : W'.cell? ⟨b1, o1 + m, none⟩ = some (.int .i64 tm)) => show W'.cell? ⟨w.heap.size, 4, none⟩ = some (.slice A4 n4 c4) ∧ W'.cell? ⟨b1, o1 + m, none⟩ = some (.int .i64 tm) ∧ Below W0.heap.size W0 W' from ⟨(HX.out.below hb' HX.out.lt).cell (i := 4) rfl, hd, hb'⟩)
      have KI := Lib.hid ((HI.out wr.drew tm hbw.drew).mono (R' := fun e W' => e = .returned (.bool (hasR C.ign tm)) ∧ (W'.cell? ⟨w.heap.size, 5, none⟩ = some (.slice A5 n5 c5) ∧ W'.cell? ⟨b1, o1 + m, none⟩ = some (.int .i64 tm) ∧ Below W0.heap.size W0 W')) (fun e W' hh => ⟨hh.1, SI.out W' (Below.trans (Below.refl _ _).drew hh.2)⟩))
      generalize hasR C.ign tm = qi at *
      go_wp2_with fail
      refine wp_region_held_drew (S := fun W' => W'.cell? ⟨w.heap.size, 5, none⟩ = some (.slice A5 n5 c5) ∧ W'.cell? ⟨b1, o1 + m, none⟩ = some (.int .i64 tm) ∧ Below W0.heap.size W0 W') (by kernel_rfl) (SI.out _ (Below.refl _ _).drew) (fun hHeld => ?_)
      refine anyH_take (i := 0) (v := ?_) (some 17) rfl rfl (by kernel_rfl) (by kernel_rfl) (by kernel_rfl) (fun _ _ _ h => h) (by rfl) (by assumption) ?_ ?_
      rotate_left
      · intro w hSw; (try dsimp only at hSw); go_split_ands; go_simp; try (with_reducible rfl)
      try simp only [Act.put, List.setIfInBounds_toArray, List.set_cons_zero, List.set_cons_succ]
      refine anyH_take (i := 1) (v := ?_) (some 18) rfl rfl (by kernel_rfl) (by kernel_rfl) (by kernel_rfl) (fun _ _ _ h => h) (by rfl) (by assumption) ?_ ?_
      rotate_left
      · intro w hSw; (try dsimp only at hSw); go_split_ands; go_simp; try (with_reducible rfl)
      try simp only [Act.put, List.setIfInBounds_toArray, List.set_cons_zero, List.set_cons_succ]
      refine anyH_take (i := 2) (v := ?_) (some 19) rfl rfl (by kernel_rfl) (by kernel_rfl) (by kernel_rfl) (fun _ _ _ h => h) (by rfl) (by assumption) ?_ ?_
      rotate_left
      · intro w hSw; (try dsimp only at hSw); go_split_ands; go_simp; try (with_reducible rfl)
      try simp only [Act.put, List.setIfInBounds_toArray, List.set_cons_zero, List.set_cons_succ]
      refine anyH_take (i := 3) (v := ?_) (some 20) rfl rfl (by kernel_rfl) (by kernel_rfl) (by kernel_rfl) (fun _ _ _ h => h) (by rfl) (by assumption) ?_ ?_
      rotate_left
      · intro w hSw; (try dsimp only at hSw); go_split_ands; go_simp; try (with_reducible rfl)
      try simp only [Act.put, List.setIfInBounds_toArray, List.set_cons_zero, List.set_cons_succ]
      refine anyH_take (i := 4) (v := ?_) (some 21) rfl rfl (by kernel_rfl) (by kernel_rfl) (by kernel_rfl) (fun _ _ _ h => h) (by rfl) (by assumption) ?_ ?_
      rotate_left
      · intro w hSw; (try dsimp only at hSw); go_split_ands; go_simp; try (with_reducible rfl)
      try simp only [Act.put, List.setIfInBounds_toArray, List.set_cons_zero, List.set_cons_succ]
      refine anyH_take (i := 5) (v := ?_) (some 22) rfl rfl (by kernel_rfl) (by kernel_rfl) (by kernel_rfl) (fun _ _ _ h => h) (by rfl) (by assumption) ?_ ?_
      rotate_left
      · intro w hSw; (try dsimp only at hSw); go_split_ands; go_simp; try (with_reducible rfl)
      try simp only [Act.put, List.setIfInBounds_toArray, List.set_cons_zero, List.set_cons_succ]
      refine anyH_call (i := 6) (some 23) rfl rfl (by kernel_rfl) (by rfl) (by go_simp) KI.out (fun W3 hS6 => ?_)
      clear hHeld
      have hHeld := hS6
      clear hS6
      try simp only [Act.put, List.setIfInBounds_toArray, List.set_cons_zero, List.set_cons_succ]
      refine anyH_take (i := 7) (v := ?_) (some 24) rfl rfl (by kernel_rfl) (by kernel_rfl) (by kernel_rfl) (fun _ _ _ h => h) (by rfl) (by assumption) ?_ ?_
      rotate_left
      · intro w hSw; (try dsimp only at hSw); go_split_ands; go_simp; try (with_reducible rfl)
      try simp only [Act.put, List.setIfInBounds_toArray, List.set_cons_zero, List.set_cons_succ]
      refine wpAnyH_done (by kernel_rfl) ?_ _
      obtain ⟨_, d3, hb3⟩ := hHeld
      have hb4 := B0.trans (hb3.mono B0.size)
      clear KI SI d0 lb
      cases qi with
      | true =>
        rw [if_pos rfl] at NUm
        go_wp2_with fail
        go_roundw
        case rel => exact ⟨m + 1, by omega, by go_num, NUm.out.symm.trans HR.out, hb3⟩
        case measure => simp [intOf]; omega
      | false =>
        rw [if_neg (by simp)] at NUm
        have HR2 := Lib.hid (NUm.out.symm.trans HR.out)
        have KC := Lib.hid ((HC.out W3.drew tm hb4.drew).mono (R' := fun e W' => e = .returned (.bool (hasR C.cased tm)) ∧ (W'.cell? ⟨w.heap.size, 4, none⟩ = some (.slice A4 n4 c4) ∧ W'.cell? ⟨b1, o1 + m, none⟩ = some (.int .i64 tm) ∧ Below W0.heap.size W0 W')) (fun e W' hh => ⟨hh.1, SC.out W' (hb3.trans ((Below.trans (Below.refl _ _).drew hh.2).mono hb3.size)) ((hh.2.cell (p := ⟨b1, o1 + m, none⟩) (World.block_lt_of_cell? W3 _ d3)).trans d3)⟩))
        generalize hasR C.cased tm = qc at *
        obtain rfl := HR2.out
        clear HR2
        go_wp2_with fail
        refine wp_region_held_drew (S := fun W' => W'.cell? ⟨w.heap.size, 4, none⟩ = some (.slice A4 n4 c4) ∧ W'.cell? ⟨b1, o1 + m, none⟩ = some (.int .i64 tm) ∧ Below W0.heap.size W0 W') (by kernel_rfl) (SC.out _ hb3.drew d3) (fun hHeld => ?_)
        refine anyH_take (i := 0) (v := ?_) (some 25) rfl rfl (by kernel_rfl) (by kernel_rfl) (by kernel_rfl) (fun _ _ _ h => h) (by rfl) (by assumption) ?_ ?_
        rotate_left
        · intro w hSw; (try dsimp only at hSw); go_split_ands; go_simp; try (with_reducible rfl)
        try simp only [Act.put, List.setIfInBounds_toArray, List.set_cons_zero, List.set_cons_succ]
        refine anyH_take (i := 1) (v := ?_) (some 26) rfl rfl (by kernel_rfl) (by kernel_rfl) (by kernel_rfl) (fun _ _ _ h => h) (by rfl) (by assumption) ?_ ?_
        rotate_left
        · intro w hSw; (try dsimp only at hSw); go_split_ands; go_simp; try (with_reducible rfl)
        try simp only [Act.put, List.setIfInBounds_toArray, List.set_cons_zero, List.set_cons_succ]
        refine anyH_take (i := 2) (v := ?_) (some 27) rfl rfl (by kernel_rfl) (by kernel_rfl) (by kernel_rfl) (fun _ _ _ h => h) (by rfl) (by assumption) ?_ ?_
        rotate_left
        · intro w hSw; (try dsimp only at hSw); go_split_ands; go_simp; try (with_reducible rfl)
        try simp only [Act.put, List.setIfInBounds_toArray, List.set_cons_zero, List.set_cons_succ]
        refine anyH_take (i := 3) (v := ?_) (some 28) rfl rfl (by kernel_rfl) (by kernel_rfl) (by kernel_rfl) (fun _ _ _ h => h) (by rfl) (by assumption) ?_ ?_
        rotate_left
        · intro w hSw; (try dsimp only at hSw); go_split_ands; go_simp; try (with_reducible rfl)
        try simp only [Act.put, List.setIfInBounds_toArray, List.set_cons_zero, List.set_cons_succ]
        refine anyH_take (i := 4) (v := ?_) (some 29) rfl rfl (by kernel_rfl) (by kernel_rfl) (by kernel_rfl) (fun _ _ _ h => h) (by rfl) (by assumption) ?_ ?_
        rotate_left
        · intro w hSw; (try dsimp only at hSw); go_split_ands; go_simp; try (with_reducible rfl)
        try simp only [Act.put, List.setIfInBounds_toArray, List.set_cons_zero, List.set_cons_succ]
        refine anyH_take (i := 5) (v := ?_) (some 30) rfl rfl (by kernel_rfl) (by kernel_rfl) (by kernel_rfl) (fun _ _ _ h => h) (by rfl) (by assumption) ?_ ?_
        rotate_left
        · intro w hSw; (try dsimp only at hSw); go_split_ands; go_simp; try (with_reducible rfl)
        try simp only [Act.put, List.setIfInBounds_toArray, List.set_cons_zero, List.set_cons_succ]
        refine anyH_call (i := 6) (some 31) rfl rfl (by kernel_rfl) (by rfl) (by go_simp) KC.out (fun W4 hS6 => ?_)
        clear hHeld
        have hHeld := hS6
        clear hS6
        try simp only [Act.put, List.setIfInBounds_toArray, List.set_cons_zero, List.set_cons_succ]
        refine anyH_take (i := 7) (v := ?_) (some 8) rfl rfl (by kernel_rfl) (by kernel_rfl) (by kernel_rfl) (fun _ _ _ h => h) (by rfl) (by assumption) ?_ ?_
        rotate_left
        · intro w hSw; (try dsimp only at hSw); go_split_ands; go_simp; try (with_reducible rfl)
        try simp only [Act.put, List.setIfInBounds_toArray, List.set_cons_zero, List.set_cons_succ]
        refine wpAnyH_done (by kernel_rfl) ?_ _
        have hb5 := B0.trans (hHeld.2.2.mono B0.size)
        clear KC hHeld
        go_wp2_with fail
        go_ret
        exact ⟨rfl, hb5⟩
    · obtain rfl : m' = t.length := by omega
      obtain rfl := (HR.out.symm.trans NE.out)
      go_wp2_with fail
      go_ret
      exact ⟨rfl, hbw⟩

set_option maxRecDepth 100000 in
set_option maxHeartbeats 6400000 in
theorem refFinal_any (v0 v1 v2 v3 v4 v5 : Value) (C : Cse) (A : Option Addr) (n a : Nat) (t : List Int) (k : Nat) (w : World) (h : CaseAt w v0 v1 v2 v3 v4 v5 C) (hz : CaseSz C) (hA : Ints w A t) (hn : t.length = n) (hb : n ≤ 1048576) (hk : k < n) :
    Calls Try.prog 39 #[.agg #[v0, v1, v2, v3, v4, v5], .slice A n a, .int .i64 k] w (RetBool (finC C t k) w) := by
  subst hn
  obtain ⟨A0, n0, c0, rfl⟩ := h.lower.sl
  obtain ⟨A1, n1, c1, rfl⟩ := h.upper.sl
  obtain ⟨A2, n2, c2, rfl⟩ := h.title.sl
  obtain ⟨A3, n3, c3, rfl⟩ := h.fold.sl
  obtain ⟨A4, n4, c4, rfl⟩ := h.cased.sl
  obtain ⟨A5, n5, c5, rfl⟩ := h.ign.sl
  have B0 : Below w.heap.size w (w.alloc (.cells #[.slice A0 n0 c0, .slice A1 n1 c1, .slice A2 n2 c2, .slice A3 n3 c3, .slice A4 n4 c4, .slice A5 n5 c5] 27)) := (Below.refl _ _).alloc (Nat.le_refl _) _
  have X0 : Box (w.alloc (.cells #[.slice A0 n0 c0, .slice A1 n1 c1, .slice A2 n2 c2, .slice A3 n3 c3, .slice A4 n4 c4, .slice A5 n5 c5] 27)) w.heap.size 27 [.slice A0 n0 c0, .slice A1 n1 c1, .slice A2 n2 c2, .slice A3 n3 c3, .slice A4 n4 c4, .slice A5 n5 c5] := Box.new w 27 [.slice A0 n0 c0, .slice A1 n1 c1, .slice A2 n2 c2, .slice A3 n3 c3, .slice A4 n4 c4, .slice A5 n5 c5] rfl
  have W0E : ∃ W0, (w.alloc (.cells #[.slice A0 n0 c0, .slice A1 n1 c1, .slice A2 n2 c2, .slice A3 n3 c3, .slice A4 n4 c4, .slice A5 n5 c5] 27)) = W0 := ⟨_, rfl⟩
  have CA := Lib.hid (fun W (hb : Below w.heap.size w W) => h.below hb)
  have ND := Lib.hid (fun W (hb' : Below w.heap.size w W) => nearDown_any _ _ _ _ _ _ C A t.length a t k W (h.below hb') hz (hA.below hb') rfl hb (by omega))
  have NU := Lib.hid (fun W (hb' : Below w.heap.size w W) => nearUp_any _ _ _ _ _ _ C A t.length a t (k + 1) W (h.below hb') hz (hA.below hb') rfl hb (by omega))
  rw [show (((k + 1 : Nat) : Int)) = (k : Int) + 1 from by push_cast; rfl] at NU
  have FE := Lib.hid (show finC C t k = (nearC C (t.take k).reverse && !nearC C (t.drop (k + 1))) from rfl)
  have q1 : IntKind.i64.wrap ((k : Int) + 1) = (k : Int) + 1 := IntWalk.i64_in _ (by omega)
  have q2 : IntKind.i64.wrap ((k : Int) - 1) = (k : Int) - 1 := IntWalk.i64_in _ (by omega)
  clear h hz hA CA
  generalize nearC C (t.take k).reverse = x at *
  generalize nearC C (t.drop (k + 1)) = y at *
  generalize finC C t k = R at *
  obtain rfl := FE.out
  clear FE
  have e0 := X0.cell (i := 0) rfl
  have e1 := X0.cell (i := 1) rfl
  have e2 := X0.cell (i := 2) rfl
  have e3 := X0.cell (i := 3) rfl
  have e4 := X0.cell (i := 4) rfl
  have e5 := X0.cell (i := 5) rfl
  go_enter Try.func39, Try.ntmps39
  go_wp2_with fail
  clear e0 e1 e2 e3 e4 e5
  obtain ⟨W0, hW0⟩ := W0E
  rw [hW0] at B0 X0 ⊢
  clear hW0
  have hl0 := X0.lt
  with_reducible refine (ND.out W0 B0).mono ?_
  rintro e W1 ⟨rfl, hb1⟩
  have hb2 := B0.trans (hb1.mono B0.size)
  have X1 := X0.below hb1 X0.lt
  have f0 := X1.cell (i := 0) rfl
  have f1 := X1.cell (i := 1) rfl
  have f2 := X1.cell (i := 2) rfl
  have f3 := X1.cell (i := 3) rfl
  have f4 := X1.cell (i := 4) rfl
  have f5 := X1.cell (i := 5) rfl
  have hl1 := X1.lt
  clear X0 X1 ND
  cases x with
  | false =>
    clear NU
    go_wp2_with fail
    go_ret
    exact ⟨rfl, hb2⟩
  | true =>
    go_wp2_with fail
    with_reducible refine (NU.out W1 hb2).mono ?_
    rintro e W2 ⟨rfl, hb3⟩
    have hb4 := hb2.trans (hb3.mono hb2.size)
    clear NU
    go_wp2_with fail
    go_ret
    exact ⟨by simp, hb4⟩

set_option maxRecDepth 100000 in
set_option maxHeartbeats 6400000 in
theorem refFinalB_any (v0 v1 v2 v3 v4 v5 : Value) (C : Cse) (A : Option Addr) (n a : Nat) (t : List Int) (i : Int) (w : World) (h : CaseAt w v0 v1 v2 v3 v4 v5 C) (hz : CaseSz C) (hA : Ints w A t) (hn : t.length = n) (hb : n ≤ 1048576) :
    Calls Try.prog 18 #[.agg #[v0, v1, v2, v3, v4, v5], .slice A n a, .int .i64 i] w (RetBool (finalB (caseD C) t i) w) := by
  subst hn
  obtain ⟨A0, n0, c0, rfl⟩ := h.lower.sl
  obtain ⟨A1, n1, c1, rfl⟩ := h.upper.sl
  obtain ⟨A2, n2, c2, rfl⟩ := h.title.sl
  obtain ⟨A3, n3, c3, rfl⟩ := h.fold.sl
  obtain ⟨A4, n4, c4, rfl⟩ := h.cased.sl
  obtain ⟨A5, n5, c5, rfl⟩ := h.ign.sl
  have B0 : Below w.heap.size w (w.alloc (.cells #[.slice A0 n0 c0, .slice A1 n1 c1, .slice A2 n2 c2, .slice A3 n3 c3, .slice A4 n4 c4, .slice A5 n5 c5] 27)) := (Below.refl _ _).alloc (Nat.le_refl _) _
  have X0 : Box (w.alloc (.cells #[.slice A0 n0 c0, .slice A1 n1 c1, .slice A2 n2 c2, .slice A3 n3 c3, .slice A4 n4 c4, .slice A5 n5 c5] 27)) w.heap.size 27 [.slice A0 n0 c0, .slice A1 n1 c1, .slice A2 n2 c2, .slice A3 n3 c3, .slice A4 n4 c4, .slice A5 n5 c5] := Box.new w 27 [.slice A0 n0 c0, .slice A1 n1 c1, .slice A2 n2 c2, .slice A3 n3 c3, .slice A4 n4 c4, .slice A5 n5 c5] rfl
  have W0E : ∃ W0, (w.alloc (.cells #[.slice A0 n0 c0, .slice A1 n1 c1, .slice A2 n2 c2, .slice A3 n3 c3, .slice A4 n4 c4, .slice A5 n5 c5] 27)) = W0 := ⟨_, rfl⟩
  have CA := Lib.hid (fun W (hb : Below w.heap.size w W) => h.below hb)
  have VD := Lib.hid (fun W (hb : Below w.heap.size w W) => refData_any _ _ _ _ _ _ C W (h.below hb) hz)
  have FC := Lib.hid (fun k W u0 u1 u2 u3 u4 u5 (hb' : Below w.heap.size w W) (hc : CaseAt W u0 u1 u2 u3 u4 u5 (caseD C)) (hk : k < t.length) => refFinal_any u0 u1 u2 u3 u4 u5 (caseD C) A t.length a t k W hc hz.d (hA.below hb') rfl hb hk)
  have F0 := Lib.hid (fun h => finalB_lo (caseD C) t (i := i) h)
  have F1 := Lib.hid (fun h => finalB_hi (caseD C) t (i := i) h)
  have F2 := Lib.hid (fun k h => finalB_in (caseD C) t (k := k) h)
  clear h hz hA
  by_cases h0 : i < 0
  · have q0 : decide (0 ≤ i) = false := by simpa using h0
    have E := Lib.hid (F0.out h0)
    generalize finalB (caseD C) t i = R at *
    obtain rfl := E.out
    clear F0 F1 F2 FC E VD
    go_enter Try.func18, Try.ntmps18
    go_wp2_with fail
    go_ret
    exact ⟨rfl, B0⟩
  · by_cases h1 : (t.length : Int) ≤ i
    · have q0 : decide (0 ≤ i) = true := by simpa using h0
      have q1 : decide (i < t.length) = false := by simpa using h1
      have E := Lib.hid (F1.out h1)
      generalize finalB (caseD C) t i = R at *
      obtain rfl := E.out
      clear F0 F1 F2 FC E VD
      go_enter Try.func18, Try.ntmps18
      go_wp2_with fail
      go_ret
      exact ⟨rfl, B0⟩
    · obtain ⟨k, rfl⟩ : ∃ k : Nat, i = k := ⟨i.toNat, by omega⟩
      have hk : k < t.length := by omega
      have E := Lib.hid (F2.out k hk)
      clear F0 F1 F2
      generalize finalB (caseD C) t k = R at *
      have e0 := X0.cell (i := 0) rfl
      have e1 := X0.cell (i := 1) rfl
      have e2 := X0.cell (i := 2) rfl
      have e3 := X0.cell (i := 3) rfl
      have e4 := X0.cell (i := 4) rfl
      have e5 := X0.cell (i := 5) rfl
      go_enter Try.func18, Try.ntmps18
      go_wp2_with fail
      clear e0 e1 e2 e3 e4 e5
      obtain ⟨W0, hW0⟩ := W0E
      rw [hW0] at B0 X0 ⊢
      clear hW0
      with_reducible refine (VD.out W0 B0).mono ?_
      rintro e W1 ⟨u0, u1, u2, u3, u4, u5, rfl, hT, hb1⟩
      have hb2 := B0.trans (hb1.mono B0.size)
      have K := Lib.hid (FC.out k W1 _ _ _ _ _ _ hb2 (hT W1 (CA.out W1 hb2)) hk)
      clear FC VD CA hT
      go_wp2_with fail
      with_reducible refine K.out.mono ?_
      rintro e W2 ⟨rfl, hb3⟩
      have hb4 := hb2.trans (hb3.mono hb2.size)
      rw [← E.out]
      clear E K
      go_wp2_with fail
      go_ret
      exact ⟨rfl, hb4⟩

set_option maxRecDepth 100000 in
set_option maxHeartbeats 6400000 in
theorem mapped_any (v : Value) (ms : List Mp) (x : Int) (w : World) (h : MpsV w v ms) (hz : MpsSz ms) (hok : mapErr ms = 0) :
    Calls Try.prog 47 #[v, .int .i64 x] w (RetIs (mapT ms x) w) := by
  have G := Lib.hid (show Calls Try.prog 69 #[v, .int .i64 x, .string ⟨#[]⟩] w (RetGet (getM ms x .empty) w) from h.get hz hok x .empty)
  have E := Lib.hid (show mapT ms x = (getM ms x .empty).getD [x] from rfl)
  generalize getM ms x .empty = g at *
  generalize mapT ms x = R at *
  obtain rfl := E.out
  clear E h hz hok
  go_enter Try.func47, Try.ntmps47
  go_wp2_with fail
  with_reducible refine G.out.mono ?_
  rintro e W1 ⟨E, d, rfl, h1, h2, hb1⟩
  have HH := Lib.hid (And.intro h1 h2)
  clear G h1 h2
  cases g with
  | none =>
    simp only [Option.isSome_none, Option.getD_none]
    go_wp2_with fail
    go_ret
    exact ⟨_, _, rfl, Nat.le_refl _, Ints_new W1 [x] _ rfl, hb1.alloc hb1.size _⟩
  | some l =>
    simp only [Option.isSome_some, Option.getD_some] at HH ⊢
    go_wp2_with fail
    go_ret
    exact ⟨E, d, rfl, HH.out.1, HH.out.2, hb1⟩

set_option maxRecDepth 100000 in
set_option maxHeartbeats 12800000 in
theorem refLower_any (v0 v1 v2 v3 v4 v5 : Value) (C : Cse) (A : Option Addr) (n a : Nat) (t : List Int) (k : Nat) (w : World) (h : CaseAt w v0 v1 v2 v3 v4 v5 C) (hz : CaseSz C) (hok : CaseOk C) (hA : Ints w A t) (hn : t.length = n) (hb : n ≤ 1048576) (hk : k < n) :
    Calls Try.prog 45 #[.agg #[v0, v1, v2, v3, v4, v5], .slice A n a, .int .i64 k] w (RetIs (lowAt C t k) w) := by
  subst hn
  obtain ⟨A0, n0, c0, rfl⟩ := h.lower.sl
  obtain ⟨A1, n1, c1, rfl⟩ := h.upper.sl
  obtain ⟨A2, n2, c2, rfl⟩ := h.title.sl
  obtain ⟨A3, n3, c3, rfl⟩ := h.fold.sl
  obtain ⟨A4, n4, c4, rfl⟩ := h.cased.sl
  obtain ⟨A5, n5, c5, rfl⟩ := h.ign.sl
  have B0 : Below w.heap.size w (w.alloc (.cells #[.slice A0 n0 c0, .slice A1 n1 c1, .slice A2 n2 c2, .slice A3 n3 c3, .slice A4 n4 c4, .slice A5 n5 c5] 27)) := (Below.refl _ _).alloc (Nat.le_refl _) _
  have X0 : Box (w.alloc (.cells #[.slice A0 n0 c0, .slice A1 n1 c1, .slice A2 n2 c2, .slice A3 n3 c3, .slice A4 n4 c4, .slice A5 n5 c5] 27)) w.heap.size 27 [.slice A0 n0 c0, .slice A1 n1 c1, .slice A2 n2 c2, .slice A3 n3 c3, .slice A4 n4 c4, .slice A5 n5 c5] := Box.new w 27 [.slice A0 n0 c0, .slice A1 n1 c1, .slice A2 n2 c2, .slice A3 n3 c3, .slice A4 n4 c4, .slice A5 n5 c5] rfl
  have W0E : ∃ W0, (w.alloc (.cells #[.slice A0 n0 c0, .slice A1 n1 c1, .slice A2 n2 c2, .slice A3 n3 c3, .slice A4 n4 c4, .slice A5 n5 c5] 27)) = W0 := ⟨_, rfl⟩
  have CA := Lib.hid (fun W (hb : Below w.heap.size w W) => h.below hb)
  have GC := Lib.hid (fun W x (hb' : Below w.heap.size w W) => show Calls Try.prog 69 #[.slice A0 n0 c0, .int .i64 x, .string ⟨#[102, 105, 110, 97, 108]⟩] W (RetGet (getM C.lower x finalS) W) from (h.below hb').lower.get hz.lower hok.lower x finalS)
  have MC := Lib.hid (fun W x (hb' : Below w.heap.size w W) => mapped_any _ C.lower x W (h.below hb').lower hz.lower hok.lower)
  have FC := Lib.hid (fun W (hb' : Below w.heap.size w W) => refFinal_any _ _ _ _ _ _ C A t.length a t k W (h.below hb') hz (hA.below hb') rfl hb hk)
  obtain ⟨b1, o1, rfl, hcell⟩ := hA.at hk
  have d0 := hcell k hk
  have lb := World.block_lt_of_cell? w _ d0
  have ci0 : (0 : Int) ≤ k := by omega
  have ci1 : (k : Int) < t.length := by omega
  have LE := Lib.hid (show lowAt C t k = lowX C t[k] (finC C t k) by unfold lowAt; rw [getD_at hk])
  clear hcell h hz hA hok CA
  generalize lowAt C t k = R at *
  generalize t[k] = tk at *
  have LT := Lib.hid (fun l (h : getM C.lower tk finalS = some l) => lowX_t h)
  have LN := Lib.hid (fun (h : getM C.lower tk finalS = none) (f : Bool) => lowX_n h f)
  have LF := Lib.hid (lowX_f C tk)
  generalize finC C t k = fk at *
  have SC := Lib.hid (fun W0 W' (hX : Box W0 w.heap.size 27 [.slice A0 n0 c0, .slice A1 n1 c1, .slice A2 n2 c2, .slice A3 n3 c3, .slice A4 n4 c4, .slice A5 n5 c5]) (hB : Below w.heap.size w W0) (hb' : Below W0.heap.size W0 W') => show W'.cell? ⟨w.heap.size, 0, none⟩ = some (.slice A0 n0 c0) ∧ W'.cell? ⟨b1, o1 + k, none⟩ = some (.int .i64 tk) ∧ Below W0.heap.size W0 W' from ⟨(hX.below hb' hX.lt).cell (i := 0) rfl, ((hB.trans (hb'.mono hB.size)).cell (p := ⟨b1, o1 + k, none⟩) lb).trans d0, hb'⟩)
  go_enter Try.func45, Try.ntmps45
  go_wp2_with fail
  obtain ⟨W0, hW0⟩ := W0E
  rw [hW0] at B0 X0 ⊢
  clear hW0
  have HX := Lib.hid X0
  have SC := Lib.hid (fun W' hb' => SC.out W0 W' HX.out B0 hb')
  clear X0
  have KG := Lib.hid ((GC.out W0.drew tk B0.drew).mono (R' := fun e W' => ∃ v, e = .returned v ∧ (W'.cell? ⟨w.heap.size, 0, none⟩ = some (.slice A0 n0 c0) ∧ W'.cell? ⟨b1, o1 + k, none⟩ = some (.int .i64 tk) ∧ Below W0.heap.size W0 W') ∧ (∃ E d, v = .tuple #[.slice E ((getM C.lower tk finalS).getD []).length d, .bool (getM C.lower tk finalS).isSome] ∧ ((getM C.lower tk finalS).getD []).length ≤ d ∧ Ints W' E ((getM C.lower tk finalS).getD []))) (fun e W' ⟨E, d, he, h1, h2, h3⟩ => ⟨_, he, SC.out W' (Below.trans (Below.refl _ _).drew h3), E, d, rfl, h1, h2⟩))
  cases hg : getM C.lower tk finalS with
  | none =>
    have US := Lib.hid (LE.out.trans (LN.out hg fk))
    rw [hg] at KG
    simp only [Option.isSome_none, Option.getD_none] at KG
    clear LE LT LN LF GC FC hg
    refine wp_region_held_drew (S := fun W' => W'.cell? ⟨w.heap.size, 0, none⟩ = some (.slice A0 n0 c0) ∧ W'.cell? ⟨b1, o1 + k, none⟩ = some (.int .i64 tk) ∧ Below W0.heap.size W0 W') (by kernel_rfl) (SC.out _ (Below.refl _ _).drew) (fun hHeld => ?_)
    refine anyH_take (i := 0) (v := ?_) (some 10) rfl rfl (by kernel_rfl) (by kernel_rfl) (by kernel_rfl) (fun _ _ _ h => h) (by rfl) (by assumption) ?_ ?_
    rotate_left
    · intro w hSw; (try dsimp only at hSw); go_split_ands; go_simp; try (with_reducible rfl)
    try simp only [Act.put, List.setIfInBounds_toArray, List.set_cons_zero, List.set_cons_succ]
    refine anyH_take (i := 1) (v := ?_) (some 11) rfl rfl (by kernel_rfl) (by kernel_rfl) (by kernel_rfl) (fun _ _ _ h => h) (by rfl) (by assumption) ?_ ?_
    rotate_left
    · intro w hSw; (try dsimp only at hSw); go_split_ands; go_simp; try (with_reducible rfl)
    try simp only [Act.put, List.setIfInBounds_toArray, List.set_cons_zero, List.set_cons_succ]
    refine anyH_take (i := 2) (v := ?_) (some 12) rfl rfl (by kernel_rfl) (by kernel_rfl) (by kernel_rfl) (fun _ _ _ h => h) (by rfl) (by assumption) ?_ ?_
    rotate_left
    · intro w hSw; (try dsimp only at hSw); go_split_ands; go_simp; try (with_reducible rfl)
    try simp only [Act.put, List.setIfInBounds_toArray, List.set_cons_zero, List.set_cons_succ]
    refine anyH_take (i := 3) (v := ?_) (some 13) rfl rfl (by kernel_rfl) (by kernel_rfl) (by kernel_rfl) (fun _ _ _ h => h) (by rfl) (by assumption) ?_ ?_
    rotate_left
    · intro w hSw; (try dsimp only at hSw); go_split_ands; go_simp; try (with_reducible rfl)
    try simp only [Act.put, List.setIfInBounds_toArray, List.set_cons_zero, List.set_cons_succ]
    refine anyH_take (i := 4) (v := ?_) (some 14) rfl rfl (by kernel_rfl) (by kernel_rfl) (by kernel_rfl) (fun _ _ _ h => h) (by rfl) (by assumption) ?_ ?_
    rotate_left
    · intro w hSw; (try dsimp only at hSw); go_split_ands; go_simp; try (with_reducible rfl)
    try simp only [Act.put, List.setIfInBounds_toArray, List.set_cons_zero, List.set_cons_succ]
    refine anyH_take (i := 5) (v := ?_) (some 15) rfl rfl (by kernel_rfl) (by kernel_rfl) (by kernel_rfl) (fun _ _ _ h => h) (by rfl) (by assumption) ?_ ?_
    rotate_left
    · intro w hSw; (try dsimp only at hSw); go_split_ands; go_simp; try (with_reducible rfl)
    try simp only [Act.put, List.setIfInBounds_toArray, List.set_cons_zero, List.set_cons_succ]
    refine anyH_callE (i := 6) (some 16) rfl rfl (by kernel_rfl) (by rfl) (by go_simp) KG.out ?_
    rintro _ W3 hS6 ⟨E, d, rfl, h1, h2⟩
    clear hHeld h1 h2
    have hHeld := hS6
    clear hS6
    try simp only [Act.put, List.setIfInBounds_toArray, List.set_cons_zero, List.set_cons_succ]
    refine anyH_take (i := 7) (v := ?_) (some 9) rfl rfl (by kernel_rfl) (by kernel_rfl) (by kernel_rfl) (fun _ _ _ h => h) (by rfl) (by assumption) ?_ ?_
    rotate_left
    · intro w hSw; (try dsimp only at hSw); go_split_ands; go_simp; try (with_reducible rfl)
    try simp only [Act.put, List.setIfInBounds_toArray, List.set_cons_zero, List.set_cons_succ]
    refine anyH_take (i := 8) (v := ?_) (some 17) rfl rfl (by kernel_rfl) (by kernel_rfl) (by kernel_rfl) (fun _ _ _ h => h) (by rfl) (by assumption) ?_ ?_
    rotate_left
    · intro w hSw; (try dsimp only at hSw); go_split_ands; go_simp; try (with_reducible rfl)
    try simp only [Act.put, List.setIfInBounds_toArray, List.set_cons_zero, List.set_cons_succ]
    refine anyH_take (i := 9) (v := ?_) (some 18) rfl rfl (by kernel_rfl) (by kernel_rfl) (by kernel_rfl) (fun _ _ _ h => h) (by rfl) (by assumption) ?_ ?_
    rotate_left
    · intro w hSw; (try dsimp only at hSw); go_split_ands; go_simp; try (with_reducible rfl)
    try simp only [Act.put, List.setIfInBounds_toArray, List.set_cons_zero, List.set_cons_succ]
    refine anyH_take (i := 10) (v := ?_) (some 7) rfl rfl (by kernel_rfl) (by kernel_rfl) (by kernel_rfl) (fun _ _ _ h => h) (by rfl) (by assumption) ?_ ?_
    rotate_left
    · intro w hSw; (try dsimp only at hSw); go_split_ands; go_simp; try (with_reducible rfl)
    try simp only [Act.put, List.setIfInBounds_toArray, List.set_cons_zero, List.set_cons_succ]
    refine anyH_take (i := 11) (v := ?_) (some 8) rfl rfl (by kernel_rfl) (by kernel_rfl) (by kernel_rfl) (fun _ _ _ h => h) (by rfl) (by assumption) ?_ ?_
    rotate_left
    · intro w hSw; (try dsimp only at hSw); go_split_ands; go_simp; try (with_reducible rfl)
    try simp only [Act.put, List.setIfInBounds_toArray, List.set_cons_zero, List.set_cons_succ]
    refine wpAnyH_done (by kernel_rfl) ?_ _
    have hb3 := hHeld.2.2
    have hb4 := B0.trans (hb3.mono B0.size)
    clear KG hHeld
    have KM := Lib.hid ((MC.out W3.drew tk hb4.drew).mono (R' := fun e W' => ∃ v, e = .returned v ∧ (W'.cell? ⟨w.heap.size, 0, none⟩ = some (.slice A0 n0 c0) ∧ W'.cell? ⟨b1, o1 + k, none⟩ = some (.int .i64 tk) ∧ Below W0.heap.size W0 W') ∧ (∃ E d, v = .slice E (mapT C.lower tk).length d ∧ (mapT C.lower tk).length ≤ d ∧ Ints W' E (mapT C.lower tk) ∧ Below w.heap.size w W')) (fun e W' ⟨E, d, he, h1, h2, h3⟩ => ⟨_, he, SC.out W' (hb3.trans ((Below.trans (Below.refl _ _).drew h3).mono hb3.size)), E, d, rfl, h1, h2, hb4.trans ((Below.trans (Below.refl _ _).drew h3).mono hb4.size)⟩))
    generalize mapT C.lower tk = mt at *
    obtain rfl := US.out
    go_wp2_with fail
    refine wp_region_held_drew (S := fun W' => W'.cell? ⟨w.heap.size, 0, none⟩ = some (.slice A0 n0 c0) ∧ W'.cell? ⟨b1, o1 + k, none⟩ = some (.int .i64 tk) ∧ Below W0.heap.size W0 W') (by kernel_rfl) (SC.out _ hb3.drew) (fun hHeld => ?_)
    refine anyH_take (i := 0) (v := ?_) (some 27) rfl rfl (by kernel_rfl) (by kernel_rfl) (by kernel_rfl) (fun _ _ _ h => h) (by rfl) (by assumption) ?_ ?_
    rotate_left
    · intro w hSw; (try dsimp only at hSw); go_split_ands; go_simp; try (with_reducible rfl)
    try simp only [Act.put, List.setIfInBounds_toArray, List.set_cons_zero, List.set_cons_succ]
    refine anyH_take (i := 1) (v := ?_) (some 28) rfl rfl (by kernel_rfl) (by kernel_rfl) (by kernel_rfl) (fun _ _ _ h => h) (by rfl) (by assumption) ?_ ?_
    rotate_left
    · intro w hSw; (try dsimp only at hSw); go_split_ands; go_simp; try (with_reducible rfl)
    try simp only [Act.put, List.setIfInBounds_toArray, List.set_cons_zero, List.set_cons_succ]
    refine anyH_take (i := 2) (v := ?_) (some 29) rfl rfl (by kernel_rfl) (by kernel_rfl) (by kernel_rfl) (fun _ _ _ h => h) (by rfl) (by assumption) ?_ ?_
    rotate_left
    · intro w hSw; (try dsimp only at hSw); go_split_ands; go_simp; try (with_reducible rfl)
    try simp only [Act.put, List.setIfInBounds_toArray, List.set_cons_zero, List.set_cons_succ]
    refine anyH_take (i := 3) (v := ?_) (some 30) rfl rfl (by kernel_rfl) (by kernel_rfl) (by kernel_rfl) (fun _ _ _ h => h) (by rfl) (by assumption) ?_ ?_
    rotate_left
    · intro w hSw; (try dsimp only at hSw); go_split_ands; go_simp; try (with_reducible rfl)
    try simp only [Act.put, List.setIfInBounds_toArray, List.set_cons_zero, List.set_cons_succ]
    refine anyH_take (i := 4) (v := ?_) (some 31) rfl rfl (by kernel_rfl) (by kernel_rfl) (by kernel_rfl) (fun _ _ _ h => h) (by rfl) (by assumption) ?_ ?_
    rotate_left
    · intro w hSw; (try dsimp only at hSw); go_split_ands; go_simp; try (with_reducible rfl)
    try simp only [Act.put, List.setIfInBounds_toArray, List.set_cons_zero, List.set_cons_succ]
    refine anyH_take (i := 5) (v := ?_) (some 32) rfl rfl (by kernel_rfl) (by kernel_rfl) (by kernel_rfl) (fun _ _ _ h => h) (by rfl) (by assumption) ?_ ?_
    rotate_left
    · intro w hSw; (try dsimp only at hSw); go_split_ands; go_simp; try (with_reducible rfl)
    try simp only [Act.put, List.setIfInBounds_toArray, List.set_cons_zero, List.set_cons_succ]
    refine anyH_callE (i := 6) (some 33) rfl rfl (by kernel_rfl) (by rfl) (by go_simp) KM.out ?_
    rintro _ W4 hS6 ⟨E, d, rfl, h1, h2, h3⟩
    clear hHeld
    have hHeld := hS6
    clear hS6
    try simp only [Act.put, List.setIfInBounds_toArray, List.set_cons_zero, List.set_cons_succ]
    refine anyH_take (i := 7) (v := ?_) (some 6) rfl rfl (by kernel_rfl) (by kernel_rfl) (by kernel_rfl) (fun _ _ _ h => h) (by rfl) (by assumption) ?_ ?_
    rotate_left
    · intro w hSw; (try dsimp only at hSw); go_split_ands; go_simp; try (with_reducible rfl)
    try simp only [Act.put, List.setIfInBounds_toArray, List.set_cons_zero, List.set_cons_succ]
    refine wpAnyH_done (by kernel_rfl) ?_ _
    have HH := Lib.hid (And.intro h1 (And.intro h2 h3))
    clear KM hHeld h1 h2 h3
    go_wp2_with fail
    go_ret
    exact ⟨E, d, rfl, HH.out.1, HH.out.2.1, HH.out.2.2⟩
  | some l =>
    rw [hg] at KG
    simp only [Option.isSome_some, Option.getD_some] at KG
    refine wp_region_held_drew (S := fun W' => W'.cell? ⟨w.heap.size, 0, none⟩ = some (.slice A0 n0 c0) ∧ W'.cell? ⟨b1, o1 + k, none⟩ = some (.int .i64 tk) ∧ Below W0.heap.size W0 W') (by kernel_rfl) (SC.out _ (Below.refl _ _).drew) (fun hHeld => ?_)
    refine anyH_take (i := 0) (v := ?_) (some 10) rfl rfl (by kernel_rfl) (by kernel_rfl) (by kernel_rfl) (fun _ _ _ h => h) (by rfl) (by assumption) ?_ ?_
    rotate_left
    · intro w hSw; (try dsimp only at hSw); go_split_ands; go_simp; try (with_reducible rfl)
    try simp only [Act.put, List.setIfInBounds_toArray, List.set_cons_zero, List.set_cons_succ]
    refine anyH_take (i := 1) (v := ?_) (some 11) rfl rfl (by kernel_rfl) (by kernel_rfl) (by kernel_rfl) (fun _ _ _ h => h) (by rfl) (by assumption) ?_ ?_
    rotate_left
    · intro w hSw; (try dsimp only at hSw); go_split_ands; go_simp; try (with_reducible rfl)
    try simp only [Act.put, List.setIfInBounds_toArray, List.set_cons_zero, List.set_cons_succ]
    refine anyH_take (i := 2) (v := ?_) (some 12) rfl rfl (by kernel_rfl) (by kernel_rfl) (by kernel_rfl) (fun _ _ _ h => h) (by rfl) (by assumption) ?_ ?_
    rotate_left
    · intro w hSw; (try dsimp only at hSw); go_split_ands; go_simp; try (with_reducible rfl)
    try simp only [Act.put, List.setIfInBounds_toArray, List.set_cons_zero, List.set_cons_succ]
    refine anyH_take (i := 3) (v := ?_) (some 13) rfl rfl (by kernel_rfl) (by kernel_rfl) (by kernel_rfl) (fun _ _ _ h => h) (by rfl) (by assumption) ?_ ?_
    rotate_left
    · intro w hSw; (try dsimp only at hSw); go_split_ands; go_simp; try (with_reducible rfl)
    try simp only [Act.put, List.setIfInBounds_toArray, List.set_cons_zero, List.set_cons_succ]
    refine anyH_take (i := 4) (v := ?_) (some 14) rfl rfl (by kernel_rfl) (by kernel_rfl) (by kernel_rfl) (fun _ _ _ h => h) (by rfl) (by assumption) ?_ ?_
    rotate_left
    · intro w hSw; (try dsimp only at hSw); go_split_ands; go_simp; try (with_reducible rfl)
    try simp only [Act.put, List.setIfInBounds_toArray, List.set_cons_zero, List.set_cons_succ]
    refine anyH_take (i := 5) (v := ?_) (some 15) rfl rfl (by kernel_rfl) (by kernel_rfl) (by kernel_rfl) (fun _ _ _ h => h) (by rfl) (by assumption) ?_ ?_
    rotate_left
    · intro w hSw; (try dsimp only at hSw); go_split_ands; go_simp; try (with_reducible rfl)
    try simp only [Act.put, List.setIfInBounds_toArray, List.set_cons_zero, List.set_cons_succ]
    refine anyH_callE (i := 6) (some 16) rfl rfl (by kernel_rfl) (by rfl) (by go_simp) KG.out ?_
    rintro _ W3 hS6 ⟨E, d, rfl, h1, h2⟩
    have HG := Lib.hid (And.intro h1 h2)
    clear hHeld h1 h2
    have hHeld := hS6
    clear hS6
    try simp only [Act.put, List.setIfInBounds_toArray, List.set_cons_zero, List.set_cons_succ]
    refine anyH_take (i := 7) (v := ?_) (some 9) rfl rfl (by kernel_rfl) (by kernel_rfl) (by kernel_rfl) (fun _ _ _ h => h) (by rfl) (by assumption) ?_ ?_
    rotate_left
    · intro w hSw; (try dsimp only at hSw); go_split_ands; go_simp; try (with_reducible rfl)
    try simp only [Act.put, List.setIfInBounds_toArray, List.set_cons_zero, List.set_cons_succ]
    refine anyH_take (i := 8) (v := ?_) (some 17) rfl rfl (by kernel_rfl) (by kernel_rfl) (by kernel_rfl) (fun _ _ _ h => h) (by rfl) (by assumption) ?_ ?_
    rotate_left
    · intro w hSw; (try dsimp only at hSw); go_split_ands; go_simp; try (with_reducible rfl)
    try simp only [Act.put, List.setIfInBounds_toArray, List.set_cons_zero, List.set_cons_succ]
    refine anyH_take (i := 9) (v := ?_) (some 18) rfl rfl (by kernel_rfl) (by kernel_rfl) (by kernel_rfl) (fun _ _ _ h => h) (by rfl) (by assumption) ?_ ?_
    rotate_left
    · intro w hSw; (try dsimp only at hSw); go_split_ands; go_simp; try (with_reducible rfl)
    try simp only [Act.put, List.setIfInBounds_toArray, List.set_cons_zero, List.set_cons_succ]
    refine anyH_take (i := 10) (v := ?_) (some 7) rfl rfl (by kernel_rfl) (by kernel_rfl) (by kernel_rfl) (fun _ _ _ h => h) (by rfl) (by assumption) ?_ ?_
    rotate_left
    · intro w hSw; (try dsimp only at hSw); go_split_ands; go_simp; try (with_reducible rfl)
    try simp only [Act.put, List.setIfInBounds_toArray, List.set_cons_zero, List.set_cons_succ]
    refine anyH_take (i := 11) (v := ?_) (some 8) rfl rfl (by kernel_rfl) (by kernel_rfl) (by kernel_rfl) (fun _ _ _ h => h) (by rfl) (by assumption) ?_ ?_
    rotate_left
    · intro w hSw; (try dsimp only at hSw); go_split_ands; go_simp; try (with_reducible rfl)
    try simp only [Act.put, List.setIfInBounds_toArray, List.set_cons_zero, List.set_cons_succ]
    refine wpAnyH_done (by kernel_rfl) ?_ _
    have hb3 := hHeld.2.2
    have hb4 := B0.trans (hb3.mono B0.size)
    have X3 := HX.out.below hb3 HX.out.lt
    have f0 := X3.cell (i := 0) rfl
    have f1 := X3.cell (i := 1) rfl
    have f2 := X3.cell (i := 2) rfl
    have f3 := X3.cell (i := 3) rfl
    have f4 := X3.cell (i := 4) rfl
    have f5 := X3.cell (i := 5) rfl
    have hl3 := X3.lt
    have KF := Lib.hid (FC.out W3 hb4)
    clear KG hHeld X3 FC GC
    go_wp2_with fail
    with_reducible refine KF.out.mono ?_
    rintro e W5 ⟨rfl, hb5⟩
    have hb6 := hb3.trans (hb5.mono hb3.size)
    have hb7 := hb4.trans (hb5.mono hb4.size)
    clear KF f0 f1 f2 f3 f4 f5
    cases fk with
    | true =>
      have US := Lib.hid (LE.out.trans (LT.out l hg))
      clear LE LT LN LF hg MC SC
      obtain rfl := US.out
      clear US
      go_wp2_with fail
      go_ret
      exact ⟨E, d, rfl, HG.out.1, HG.out.2.below hb5, hb7⟩
    | false =>
      have US := Lib.hid (LE.out.trans LF.out)
      clear LE LT LN LF hg HG
      have KM := Lib.hid ((MC.out W5.drew tk hb7.drew).mono (R' := fun e W' => ∃ v, e = .returned v ∧ (W'.cell? ⟨w.heap.size, 0, none⟩ = some (.slice A0 n0 c0) ∧ W'.cell? ⟨b1, o1 + k, none⟩ = some (.int .i64 tk) ∧ Below W0.heap.size W0 W') ∧ (∃ E d, v = .slice E (mapT C.lower tk).length d ∧ (mapT C.lower tk).length ≤ d ∧ Ints W' E (mapT C.lower tk) ∧ Below w.heap.size w W')) (fun e W' ⟨E, d, he, h1, h2, h3⟩ => ⟨_, he, SC.out W' (hb6.trans ((Below.trans (Below.refl _ _).drew h3).mono hb6.size)), E, d, rfl, h1, h2, hb7.trans ((Below.trans (Below.refl _ _).drew h3).mono hb7.size)⟩))
      generalize mapT C.lower tk = mt at *
      obtain rfl := US.out
      go_wp2_with fail
      refine wp_region_held_drew (S := fun W' => W'.cell? ⟨w.heap.size, 0, none⟩ = some (.slice A0 n0 c0) ∧ W'.cell? ⟨b1, o1 + k, none⟩ = some (.int .i64 tk) ∧ Below W0.heap.size W0 W') (by kernel_rfl) (SC.out _ hb6.drew) (fun hHeld => ?_)
      refine anyH_take (i := 0) (v := ?_) (some 27) rfl rfl (by kernel_rfl) (by kernel_rfl) (by kernel_rfl) (fun _ _ _ h => h) (by rfl) (by assumption) ?_ ?_
      rotate_left
      · intro w hSw; (try dsimp only at hSw); go_split_ands; go_simp; try (with_reducible rfl)
      try simp only [Act.put, List.setIfInBounds_toArray, List.set_cons_zero, List.set_cons_succ]
      refine anyH_take (i := 1) (v := ?_) (some 28) rfl rfl (by kernel_rfl) (by kernel_rfl) (by kernel_rfl) (fun _ _ _ h => h) (by rfl) (by assumption) ?_ ?_
      rotate_left
      · intro w hSw; (try dsimp only at hSw); go_split_ands; go_simp; try (with_reducible rfl)
      try simp only [Act.put, List.setIfInBounds_toArray, List.set_cons_zero, List.set_cons_succ]
      refine anyH_take (i := 2) (v := ?_) (some 29) rfl rfl (by kernel_rfl) (by kernel_rfl) (by kernel_rfl) (fun _ _ _ h => h) (by rfl) (by assumption) ?_ ?_
      rotate_left
      · intro w hSw; (try dsimp only at hSw); go_split_ands; go_simp; try (with_reducible rfl)
      try simp only [Act.put, List.setIfInBounds_toArray, List.set_cons_zero, List.set_cons_succ]
      refine anyH_take (i := 3) (v := ?_) (some 30) rfl rfl (by kernel_rfl) (by kernel_rfl) (by kernel_rfl) (fun _ _ _ h => h) (by rfl) (by assumption) ?_ ?_
      rotate_left
      · intro w hSw; (try dsimp only at hSw); go_split_ands; go_simp; try (with_reducible rfl)
      try simp only [Act.put, List.setIfInBounds_toArray, List.set_cons_zero, List.set_cons_succ]
      refine anyH_take (i := 4) (v := ?_) (some 31) rfl rfl (by kernel_rfl) (by kernel_rfl) (by kernel_rfl) (fun _ _ _ h => h) (by rfl) (by assumption) ?_ ?_
      rotate_left
      · intro w hSw; (try dsimp only at hSw); go_split_ands; go_simp; try (with_reducible rfl)
      try simp only [Act.put, List.setIfInBounds_toArray, List.set_cons_zero, List.set_cons_succ]
      refine anyH_take (i := 5) (v := ?_) (some 32) rfl rfl (by kernel_rfl) (by kernel_rfl) (by kernel_rfl) (fun _ _ _ h => h) (by rfl) (by assumption) ?_ ?_
      rotate_left
      · intro w hSw; (try dsimp only at hSw); go_split_ands; go_simp; try (with_reducible rfl)
      try simp only [Act.put, List.setIfInBounds_toArray, List.set_cons_zero, List.set_cons_succ]
      refine anyH_callE (i := 6) (some 33) rfl rfl (by kernel_rfl) (by rfl) (by go_simp) KM.out ?_
      rintro _ W4 hS6 ⟨E, d, rfl, h1, h2, h3⟩
      clear hHeld
      have hHeld := hS6
      clear hS6
      try simp only [Act.put, List.setIfInBounds_toArray, List.set_cons_zero, List.set_cons_succ]
      refine anyH_take (i := 7) (v := ?_) (some 6) rfl rfl (by kernel_rfl) (by kernel_rfl) (by kernel_rfl) (fun _ _ _ h => h) (by rfl) (by assumption) ?_ ?_
      rotate_left
      · intro w hSw; (try dsimp only at hSw); go_split_ands; go_simp; try (with_reducible rfl)
      try simp only [Act.put, List.setIfInBounds_toArray, List.set_cons_zero, List.set_cons_succ]
      refine wpAnyH_done (by kernel_rfl) ?_ _
      have HH := Lib.hid (And.intro h1 (And.intro h2 h3))
      clear KM hHeld h1 h2 h3
      go_wp2_with fail
      go_ret
      exact ⟨E, d, rfl, HH.out.1, HH.out.2.1, HH.out.2.2⟩

end Go.Proofs.Ytpamkbbmbeeheaa
