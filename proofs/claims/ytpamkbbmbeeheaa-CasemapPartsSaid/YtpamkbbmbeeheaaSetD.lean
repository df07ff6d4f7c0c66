/- Contracts of the reference's Make, Same and Valid on sets; of slices.SortFunc at ranges, cpset.Make and cpset.Valid. Written by gen_setd.py. -/
import Derived.Test.YtpamkbbmbeeheaaSetC
import Derived.Laws.StructEq
namespace Go.Proofs.Ytpamkbbmbeeheaa
open Go.RowKit Go.Maps Go.WideMaps

theorem results_rmake (tmps : Array Value) (w : World) {b : Nat} {v0 : Value} (ha : tmps.getD 2 undef = .pointer (some ⟨b, 0, none⟩)) (c0 : w.cell? ⟨b, 0, none⟩ = some v0) :
    (results Try.f65 tmps).run Try.prog w = .ok (.agg #[v0]) w := by
  have hr : Try.f65.results = #[.cell 2 25] := rfl
  unfold results
  rw [hr]
  simp only [ha, List.mapM_toArray, List.mapM_cons, List.mapM_nil, asAddr]
  go_simp

set_option maxRecDepth 100000 in
theorem refMake_any (A : Option Addr) (n a : Nat) (rs : List Rg) (w : World) (hA : Rgs w A rs) (hn : rs.length = n) (hz : n ≤ 1000) :
    Calls Try.prog 65 #[.slice A n a] w (RetSet (canR rs) w) := by
  have B0 : Below w.heap.size w (w.alloc (.cells #[.slice none 0 0] 25)) := (Below.refl _ _).alloc (Nat.le_refl _) _
  have X0 : Box (w.alloc (.cells #[.slice none 0 0] 25)) w.heap.size 25 [.slice none 0 0] := Box.new _ _ _ rfl
  have CC := Lib.hid (combine_any A n a rs (w.alloc (.cells #[.slice none 0 0] 25)) (hA.below B0) hn hz)
  have W0E : ∃ W0, (w.alloc (.cells #[.slice none 0 0] 25)) = W0 := ⟨_, rfl⟩
  generalize canR rs = R at *
  clear hA
  go_enter Try.func65, Try.ntmps65
  go_wp2_with fail
  obtain ⟨W0, hW0⟩ := W0E
  rw [hW0] at B0 X0 CC ⊢
  clear hW0
  with_reducible refine CC.out.mono ?_
  rintro e W1 ⟨E, d, rfl, hd, hE, hb1⟩
  have X1 := X0.below hb1 X0.lt
  have c1 := X1.cell (i := 0) rfl
  have f1 := X1.free 0
  have hlt := X1.lt
  have HE := Lib.hid hE
  have HB := Lib.hid (show Rgs (W1.setCell ⟨w.heap.size, 0, none⟩ (.slice E R.length d)) E R from fun hne => by
    obtain ⟨b, o, hA, hc⟩ := HE.out hne
    refine ⟨b, o, hA, fun j u hu => ?_⟩
    have h1 := hc j u hu
    refine (World.cell?_setCell_far _ _ _ _ (fun e => ?_)).trans h1
    have e' : w.heap.size = b := e
    subst e'
    have h3 : W1.cell? ⟨w.heap.size, o + j, none⟩ = some u := h1
    have hint : ∃ z, u = .int .i64 z := by
      have hm : u ∈ flatK Rg.cells R := List.mem_of_getElem? hu
      obtain ⟨r, _, hr⟩ := List.mem_flatMap.1 hm
      simp only [Rg.cells, List.mem_cons, List.not_mem_nil, or_false] at hr
      rcases hr with rfl | rfl
      · exact ⟨_, rfl⟩
      · exact ⟨_, rfl⟩
    obtain ⟨z, rfl⟩ := hint
    unfold Box at X1
    rcases hoj : o + j with _ | m
    · rw [hoj] at h3; rw [c1] at h3; cases h3
    · rw [hoj] at h3
      simp [World.cell?, X1] at h3)
  have hbf := (B0.trans (hb1.mono B0.size)).setCell (p := ⟨w.heap.size, 0, none⟩) (Nat.le_refl _) (.slice E R.length d)
  clear CC X0 X1 hE
  go_wp2_with fail
  (try simp only [Exit.inBlock, Exit.then]); refine bodyPost_ret (results_rmake _ _ (b := w.heap.size) (v0 := .slice E R.length d) rfl (by go_simp)) rfl ?_
  exact ⟨E, d, rfl, hd, HB.out, hbf⟩

theorem neq_rg (a b c d : Int) (w : World) : (binOp .neq 48 (.agg #[.int .i64 a, .int .i64 b]) (.agg #[.int .i64 c, .int .i64 d])).run Try.prog w = .ok (.bool (!decide ((⟨a, b⟩ : Rg) = ⟨c, d⟩))) w := by
  have u3 := Try.underlying3
  have a3 := Try.isAgg3
  have z3 := Try.sizeOf3
  have hS : Try.prog.underlying 48 = some (.struct (Try.prog.fieldsOf 48)) := by kernel_rfl
  have hp : Try.prog.stoodInHeld 48 = false := by kernel_rfl
  rw [run_neq_struct, show (10000 : Nat) = 9999 + 1 from rfl, run_equalIn_agg w 9999 48 _ _ hS hp]
  simp only [Program.fieldsOf, Try.underlying48]
  go_simp
  by_cases h2 : a = c <;> by_cases h3 : b = d <;> simp [h2, h3]

theorem sameR_len {xs ys : List Rg} (h : xs.length ≠ ys.length) : decide (xs = ys) = false := by simp; exact fun e => h (by rw [e])
theorem sameR_ne {xs ys : List Rg} {k : Nat} (h1 : k < xs.length) (h2 : k < ys.length) (h : ¬ xs[k] = ys[k]) : decide (xs = ys) = false := by simp; rintro rfl; exact h rfl
theorem sameR_eq {xs ys : List Rg} (hl : xs.length = ys.length) (h : ∀ t, (h1 : t < xs.length) → (h2 : t < ys.length) → xs[t] = ys[t]) : decide (xs = ys) = true := by simp; exact List.ext_getElem hl h

set_option maxRecDepth 100000 in
set_option maxHeartbeats 3200000 in
theorem refSame_any (A : Option Addr) (n a : Nat) (B : Option Addr) (m b : Nat) (xs ys : List Rg) (w : World) (hA : Rgs w A xs) (hB : Rgs w B ys) (hn : xs.length = n) (hm : ys.length = m) (hz : n ≤ 1048576) (hz2 : m ≤ 1048576) :
    Calls Try.prog 64 #[.agg #[.slice A n a], .agg #[.slice B m b]] w (RetBool (decide (xs = ys)) w) := by
  subst hn
  subst hm
  have S1 := Lib.hid (sameR_len (xs := xs) (ys := ys))
  have S2 := Lib.hid (fun k h1 h2 h => sameR_ne (xs := xs) (ys := ys) (k := k) h1 h2 h)
  have S3 := Lib.hid (sameR_eq (xs := xs) (ys := ys))
  generalize decide (xs = ys) = R at *
  have B0 : Below w.heap.size w ((w.alloc (.cells #[.slice A xs.length a] 25)).alloc (.cells #[.slice B ys.length b] 25)) := ((Below.refl _ _).alloc (Nat.le_refl _) _).alloc (by simp) _
  have k0 : ((w.alloc (.cells #[.slice A xs.length a] 25)).alloc (.cells #[.slice B ys.length b] 25)).cell? ⟨w.heap.size, 0, none⟩ = some (.slice A xs.length a) := by simp
  have k1 : ((w.alloc (.cells #[.slice A xs.length a] 25)).alloc (.cells #[.slice B ys.length b] 25)).cell? ⟨w.heap.size + 1, 0, none⟩ = some (.slice B ys.length b) := by simp
  have s0 : ((w.alloc (.cells #[.slice A xs.length a] 25)).alloc (.cells #[.slice B ys.length b] 25)).heap.size = w.heap.size + 2 := by simp
  have W0E : ∃ W0, ((w.alloc (.cells #[.slice A xs.length a] 25)).alloc (.cells #[.slice B ys.length b] 25)) = W0 := ⟨_, rfl⟩
  have HA := Lib.hid (hA.below B0)
  have HB := Lib.hid (hB.below B0)
  clear hA hB
  by_cases hl : xs.length = ys.length
  rotate_left
  · obtain rfl := S1.out hl
    have q1 : ((xs.length : Int) != (ys.length : Int)) = true := by simp; omega
    go_enter Try.func64, Try.ntmps64
    go_wp2_with fail
    go_ret
    exact ⟨rfl, B0⟩
  have q1 : ((xs.length : Int) != (ys.length : Int)) = false := by simp; omega
  have HL := Lib.hid hl
  have hle : xs.length ≤ ys.length := by omega
  have S3' := Lib.hid (S3.out hl)
  clear hl S1 S3
  go_enter Try.func64, Try.ntmps64
  go_wp2_with fail
  obtain ⟨W0, hW0⟩ := W0E
  rw [hW0] at B0 k0 k1 s0 HA HB ⊢
  clear hW0 q1
  have hx0 : w.heap.size < W0.heap.size := by omega
  have hx1 : w.heap.size + 1 < W0.heap.size := by omega
  go_loopw [5] (fun u wr => ∃ i : Nat, i ≤ xs.length ∧ u = .int .i64 i ∧ (∀ t, (h1 : t < xs.length) → (h2 : t < ys.length) → t < i → xs[t] = ys[t]) ∧ Below W0.heap.size W0 wr) (fun u _ => xs.length - (intOf u).toNat)
  case atStart => exact ⟨0, Nat.zero_le _, rfl, fun t _ _ h => by omega, Below.refl _ _⟩
  case round =>
    obtain ⟨i, hi, rfl, hno, hbr⟩ := hrel
    have HNO := Lib.hid hno
    clear hno
    have f0 := (hbr.cell (p := ⟨w.heap.size, 0, none⟩) hx0).trans k0
    have f1 := (hbr.cell (p := ⟨w.heap.size + 1, 0, none⟩) hx1).trans k1
    by_cases hlt : i < xs.length
    · have hlt2 : i < ys.length := by omega
      obtain ⟨b1, o1, rfl, hbl, hcell⟩ := (HA.out.below hbr).at hlt
      obtain ⟨c1, c2⟩ := hcell i hlt
      obtain ⟨b2, o2, rfl, hbl2, hcell2⟩ := (HB.out.below hbr).at hlt2
      obtain ⟨d1, d2⟩ := hcell2 i hlt2
      have HY := Lib.hid (fun h => S2.out i hlt hlt2 h)
      have HN := Lib.hid (fun (h : xs[i] = ys[i]) => show ∀ t, (h1 : t < xs.length) → (h2 : t < ys.length) → t < i + 1 → xs[t] = ys[t] from fun t h1 h2 ht => by
        by_cases e : t < i
        · exact HNO.out t h1 h2 e
        · obtain rfl : t = i := by omega
          exact h)
      clear hcell hcell2
      generalize xs[i] = x at *
      generalize ys[i] = y at *
      obtain ⟨xl, xh⟩ := x
      obtain ⟨yl, yh⟩ := y
      dsimp only at *
      have i1 : (0 : Int) ≤ (i : Int) := by omega
      have i2 : (i : Int) < (xs.length : Int) := by omega
      have i3 : ((i : Int)).toNat = i := by omega
      have i4 : (i : Int) < (ys.length : Int) := by omega
      by_cases he : (⟨xl, xh⟩ : Rg) = ⟨yl, yh⟩
      · have HQ := Lib.hid (HN.out he)
        have NR1 : ∀ W, (binOp .neq 48 (.agg #[.int .i64 xl, .int .i64 xh]) (.agg #[.int .i64 yl, .int .i64 yh])).run Try.prog W = .ok (.bool false) W := fun W => by rw [neq_rg, he]; simp
        clear HY HN he
        go_wp2_with fail
        go_quiet (fail)
        go_wp2_with fail
        go_roundw
        case rel => exact ⟨i + 1, by omega, by go_num, HQ.out, below_drewN hbr _⟩
        case measure => simp [intOf]; omega
      · obtain rfl := HY.out he
        have NR1 : ∀ W, (binOp .neq 48 (.agg #[.int .i64 xl, .int .i64 xh]) (.agg #[.int .i64 yl, .int .i64 yh])).run Try.prog W = .ok (.bool true) W := fun W => by rw [neq_rg, decide_eq_false he]; rfl
        clear HY HN he
        go_wp2_with fail
        go_quiet (fail)
        go_wp2_with fail
        go_ret
        exact ⟨rfl, B0.trans ((below_drewN hbr _).mono B0.size)⟩
    · obtain rfl := S3'.out (fun t h1 h2 => HNO.out t h1 h2 (by omega))
      go_wp2_with fail
      go_ret
      exact ⟨rfl, B0.trans (hbr.mono B0.size)⟩

theorem canR_len (rs : List Rg) : (canR rs).length ≤ 2 * rs.length + 2 := by
  unfold canR
  have h1 := bld_len (p := hasR rs) (cs := cutsL (cutsL [] rs) []) (cutsL (cutsL [] rs) []).length
  have h2 : (cutsL (cutsL [] rs) []).length ≤ (cutsL [] rs).length + 2 * 0 + 1 := cuts_len [] (cutsL [] rs)
  have h3 : (cutsL [] rs).length ≤ 0 + 2 * rs.length + 1 := cuts_len rs []
  omega

set_option maxRecDepth 100000 in
theorem refSetValid_any (A : Option Addr) (n a : Nat) (rs : List Rg) (w : World) (hA : Rgs w A rs) (hn : rs.length = n) (hz : n ≤ 1000) :
    Calls Try.prog 36 #[.agg #[.slice A n a]] w (RetBool (setOk rs) w) := by
  have B0 : Below w.heap.size w (w.alloc (.cells #[.slice A n a] 25)) := (Below.refl _ _).alloc (Nat.le_refl _) _
  have k0 : (w.alloc (.cells #[.slice A n a] 25)).cell? ⟨w.heap.size, 0, none⟩ = some (.slice A n a) := by simp
  have s0 : (w.alloc (.cells #[.slice A n a] 25)).heap.size = w.heap.size + 1 := by simp
  have W0E : ∃ W0, (w.alloc (.cells #[.slice A n a] 25)) = W0 := ⟨_, rfl⟩
  have MC := Lib.hid (fun W (hb : Below w.heap.size w W) => refMake_any A n a rs W (hA.below hb) hn hz)
  have hl := canR_len rs
  have SC := Lib.hid (fun E d W (hb : Below w.heap.size w W) hE => refSame_any A n a E (canR rs).length d rs (canR rs) W (hA.below hb) hE hn rfl (by omega) (by omega))
  have HS := Lib.hid (show decide (rs = canR rs) = setOk rs by unfold setOk; rw [Bool.eq_iff_iff]; simp; exact eq_comm)
  generalize decide (rs = canR rs) = R1 at *
  generalize setOk rs = R2 at *
  generalize canR rs = cr at *
  clear hA
  go_enter Try.func36, Try.ntmps36
  go_wp2_with fail
  obtain ⟨W0, hW0⟩ := W0E
  rw [hW0] at B0 k0 s0 ⊢
  clear hW0
  have hx0 : w.heap.size < W0.heap.size := by omega
  have KP := Lib.hid (show ∀ W', Below W0.heap.size W0 W' → W'.cell? ⟨w.heap.size, 0, none⟩ = some (.slice A n a) ∧ Below W0.heap.size W0 W' from fun W' hb => ⟨(hb.cell (p := ⟨w.heap.size, 0, none⟩) hx0).trans k0, hb⟩)
  have C1 := Lib.hid (fun W (hb : Below W0.heap.size W0 W) => (MC.out W (B0.trans (hb.mono B0.size))).mono (R' := fun e W' => ∃ v, e = .returned v ∧ (W'.cell? ⟨w.heap.size, 0, none⟩ = some (.slice A n a) ∧ Below W0.heap.size W0 W') ∧ (∃ E d, v = .agg #[.slice E cr.length d] ∧ Rgs W' E cr)) (fun e w' ⟨E, d, he, _, hE, hb'⟩ => ⟨_, he, KP.out w' (hb.trans (hb'.mono hb.size)), E, d, rfl, hE⟩))
  have C2 := Lib.hid (fun E d W (hb : Below W0.heap.size W0 W) hE => (SC.out E d W (B0.trans (hb.mono B0.size)) hE).mono (R' := fun e W' => e = .returned (.bool R1) ∧ (W'.cell? ⟨w.heap.size, 0, none⟩ = some (.slice A n a) ∧ Below W0.heap.size W0 W')) (fun e w' ⟨he, hb'⟩ => ⟨he, KP.out w' (hb.trans (hb'.mono hb.size))⟩))
  refine wp_region_held_drew (S := fun W' => W'.cell? ⟨w.heap.size, 0, none⟩ = some (.slice A n a) ∧ Below W0.heap.size W0 W') (by kernel_rfl) (KP.out _ (Below.refl _ _).drew) (fun hHeld => ?_)
  refine anyH_take (i := 0) (v := ?_) (some 3) rfl rfl (by kernel_rfl) (by kernel_rfl) (by kernel_rfl) (fun _ _ _ h => h) (by rfl) (by assumption) ?_ ?_
  rotate_left
  · intro w hSw; (try dsimp only at hSw); go_split_ands; go_simp; try (with_reducible rfl)
  try simp only [Act.put, List.setIfInBounds_toArray, List.set_cons_zero, List.set_cons_succ]
  refine anyH_take (i := 1) (v := ?_) (some 4) rfl rfl (by kernel_rfl) (by kernel_rfl) (by kernel_rfl) (fun _ _ _ h => h) (by rfl) (by assumption) ?_ ?_
  rotate_left
  · intro w hSw; (try dsimp only at hSw); go_split_ands; go_simp; try (with_reducible rfl)
  try simp only [Act.put, List.setIfInBounds_toArray, List.set_cons_zero, List.set_cons_succ]
  refine anyH_take (i := 2) (v := ?_) (some 5) rfl rfl (by kernel_rfl) (by kernel_rfl) (by kernel_rfl) (fun _ _ _ h => h) (by rfl) (by assumption) ?_ ?_
  rotate_left
  · intro w hSw; (try dsimp only at hSw); go_split_ands; go_simp; try (with_reducible rfl)
  try simp only [Act.put, List.setIfInBounds_toArray, List.set_cons_zero, List.set_cons_succ]
  refine anyH_callE (i := 3) (some 6) rfl rfl (by kernel_rfl) (by rfl) (by go_simp) (C1.out _ hHeld.2) (fun v W3 hS6 hR6 => ?_)
  obtain ⟨E1, d1, rfl, hE1⟩ := hR6
  clear hHeld
  have hHeld := hS6
  clear hS6
  try simp only [Act.put, List.setIfInBounds_toArray, List.set_cons_zero, List.set_cons_succ]
  refine anyH_call (i := 4) (some 7) rfl rfl (by kernel_rfl) (by rfl) (by go_simp) (C2.out E1 d1 _ hHeld.2 hE1) (fun W4 hS6 => ?_)
  clear hHeld hE1
  have hHeld := hS6
  clear hS6
  try simp only [Act.put, List.setIfInBounds_toArray, List.set_cons_zero, List.set_cons_succ]
  refine anyH_take (i := 5) (v := ?_) (some 2) rfl rfl (by kernel_rfl) (by kernel_rfl) (by kernel_rfl) (fun _ _ _ h => h) (by rfl) (by assumption) ?_ ?_
  rotate_left
  · intro w hSw; (try dsimp only at hSw); go_split_ands; go_simp; try (with_reducible rfl)
  try simp only [Act.put, List.setIfInBounds_toArray, List.set_cons_zero, List.set_cons_succ]
  refine wpAnyH_done (by kernel_rfl) ?_ _
  go_wp2_with fail
  go_ret
  exact ⟨ret_bool HS.out, B0.trans (hHeld.2.mono B0.size)⟩

/-! the program's sort -/
set_option maxRecDepth 100000 in
theorem len64_any (n : Nat) (h : n ≤ 12) (w : World) : Calls Try.prog 97 #[.int .u64 n] w (fun e w' => (∃ z : Int, e = .returned (.int .i64 z)) ∧ w = w') := by
  obtain rfl | rfl | rfl | rfl | rfl | rfl | rfl | rfl | rfl | rfl | rfl | rfl | rfl : n = 0 ∨ n = 1 ∨ n = 2 ∨ n = 3 ∨ n = 4 ∨ n = 5 ∨ n = 6 ∨ n = 7 ∨ n = 8 ∨ n = 9 ∨ n = 10 ∨ n = 11 ∨ n = 12 := by omega
  all_goals
    go_enter Try.func97, Try.ntmps97
    go_wp2
    go_ret
    exact ⟨⟨_, rfl⟩, rfl⟩

end Go.Proofs.Ytpamkbbmbeeheaa
