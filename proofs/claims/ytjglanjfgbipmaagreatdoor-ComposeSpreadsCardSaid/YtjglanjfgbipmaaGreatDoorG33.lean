/- Texts that are merged into one file: LawM. -/
import Derived.Test.YtjglanjfgbipmaaGreatDoorG26
import Derived.Test.YtjglanjfgbipmaaGreatDoorG29
import Derived.Test.YtjglanjfgbipmaaGreatDoorG31
/- The walk of the law ComposeMakes. Written by gen_lawb.py. -/
namespace Go.Proofs.YtjglanjfgbipmaaGreatDoor
open Go.RowKit Go.Maps Go.WideMaps

theorem sec_none {x : Nrm} (h : NOk x) {L : List (Int × Int × Int)} (hL : PairsOk x L) {b : Int} (hb : hasR (canR (secR L)) b = false) : ∀ a, prN x a b = none := by
  intro a
  cases hp : prN x a b with
  | none => rfl
  | some p => have := sec_has h hL hp; rw [hb] at this; cases this
theorem tail_all {P : Int → Prop} {t : List Int} (h : ∀ j, 1 ≤ j → (hj : j < t.length) → P t[j]) : ∀ c ∈ t.tail, P c := by
  intro c hc
  obtain ⟨j, hj, rfl⟩ := List.mem_iff_getElem.1 hc
  rw [List.length_tail] at hj
  rw [List.getElem_tail]
  exact h (j + 1) (by omega) (by omega)

set_option maxRecDepth 100000 in
set_option maxHeartbeats 25600000 in
theorem ComposeMakes_any (A0 : Option Addr) (k0 : Nat) (A1 : Option Addr) (k1 : Nat) (A2 : Option Addr) (k2 : Nat) (x : Nrm) (A : Option Addr) (n a : Nat) (t : List Int) (w : World) (hN : NrmAt w A0 x.cls.length A1 x.dec.length A2 x.exc.length x) (hl : NrmLn x) (hA : Ints w A t) (hn : t.length = n) (hna : n ≤ a) (_haz : a ≤ 9223372036854775807) (hok : ∀ c ∈ t, iok c) (hL : Laid w) :
    Calls Tryz.prog 7 #[.agg #[.slice A0 x.cls.length k0, .slice A1 x.dec.length k1, .slice A2 x.exc.length k2], .slice A n a] w (RetTrue w) := by
  subst hn
  have HOK := Lib.hid hok
  clear hok
  have B0 : Below w.heap.size w (w.alloc (.cells #[.slice A0 x.cls.length k0, .slice A1 x.dec.length k1, .slice A2 x.exc.length k2] 28)) := (Below.refl _ _).alloc (Nat.le_refl _) _
  have X0 : Box (w.alloc (.cells #[.slice A0 x.cls.length k0, .slice A1 x.dec.length k1, .slice A2 x.exc.length k2] 28)) w.heap.size 28 [.slice A0 x.cls.length k0, .slice A1 x.dec.length k1, .slice A2 x.exc.length k2] := Box.new w 28 [.slice A0 x.cls.length k0, .slice A1 x.dec.length k1, .slice A2 x.exc.length k2] rfl
  have W0E : ∃ W0, (w.alloc (.cells #[.slice A0 x.cls.length k0, .slice A1 x.dec.length k1, .slice A2 x.exc.length k2] 28)) = W0 := ⟨_, rfl⟩
  have CA := Lib.hid (fun W (hb : Below w.heap.size w W) => hN.below hb)
  have HLd := Lib.hid (fun W (hb : Below w.heap.size w W) => hL.below hb)
  have HL := Lib.hid hl
  have SZ := Lib.hid (smallN_sz (x := x))
  have HA := Lib.hid (fun W (hb : Below w.heap.size w W) => hA.below hb)
  clear hN hL hl hA
  go_enter Tryz.func7, Tryz.ntmps7
  go_wp2_with fail
  obtain ⟨W0, hW0⟩ := W0E
  try rw [hW0] at B0 X0 ⊢
  clear hW0
  have SH := Lib.hid (fun W' (hb' : Below W0.heap.size W0 W') => show W'.cell? ⟨w.heap.size, 0, none⟩ = some (.slice A0 x.cls.length k0) ∧ W'.cell? ⟨w.heap.size, 1, none⟩ = some (.slice A1 x.dec.length k1) ∧ W'.cell? ⟨w.heap.size, 2, none⟩ = some (.slice A2 x.exc.length k2) ∧ Below W0.heap.size W0 W' from ⟨(X0.below hb' X0.lt).cell (i := 0) rfl, (X0.below hb' X0.lt).cell (i := 1) rfl, (X0.below hb' X0.lt).cell (i := 2) rfl, hb'⟩)
  have KM := Lib.hid (fun W (hb' : Below W0.heap.size W0 W) => smallN_any A0 _ k0 A1 _ k1 A2 _ k2 x W (CA.out W (B0.trans (hb'.mono B0.size))) HL.out.z0 HL.out.z1 HL.out.z2 HL.out.ze)
  have KA := Lib.hid (fun W (hb' : Below W0.heap.size W0 W) => awake_any W (HLd.out W (B0.trans (hb'.mono B0.size))))
  with_reducible refine (KM.out W0 (Below.refl _ _)).mono ?_
  rintro e W1 ⟨rfl, hb1⟩
  cases hs : smallN x with
  | false =>
    go_wp2_with fail
    with_reducible refine (KA.out W1 hb1).mono ?_
    rintro e W9 ⟨rfl, hb9⟩
    have hbn := B0.trans ((hb1).trans (hb9.mono (hb1).size) |>.mono B0.size)
    go_wp2_with fail
    go_ret
    exact ⟨rfl, hbn⟩
  | true =>
    have hz := SZ.out hs
    by_cases h60 : 60 < t.length
    · have d60 : decide ((60 : Int) < (t.length : Int)) = true := by simp; omega
      go_wp2_with fail
      with_reducible refine (KA.out W1 hb1).mono ?_
      rintro e W9 ⟨rfl, hb9⟩
      have hbn := B0.trans ((hb1).trans (hb9.mono (hb1).size) |>.mono B0.size)
      go_wp2_with fail
      go_ret
      exact ⟨rfl, hbn⟩
    · have d60 : decide ((60 : Int) < (t.length : Int)) = false := by simp; omega
      have hdz : x.dec.length ≤ 40 := by
        unfold smallN at hs
        simp at hs
        omega
      have KC := Lib.hid (fun W (hb' : Below W0.heap.size W0 W) => cpText_any A0 _ k0 A1 _ k1 A2 _ k2 x A t.length a t W (CA.out W (B0.trans (hb'.mono B0.size))) hz (HLd.out W (B0.trans (hb'.mono B0.size))) (HA.out W (B0.trans (hb'.mono B0.size))) rfl (by omega) HOK.out)
      have KS := Lib.hid (fun W (hb' : Below W0.heap.size W0 W) => refSecond_any A0 _ k0 A1 _ k1 A2 _ k2 x W (CA.out W (B0.trans (hb'.mono B0.size))) hz hdz)
      have KY := Lib.hid (fun c W (hb' : Below W0.heap.size W0 W) => refPrimary_any A0 _ k0 A1 _ k1 A2 _ k2 x c W (CA.out W (B0.trans (hb'.mono B0.size))) hz)
      have HMM := Lib.hid (fun c (h : c ∈ Cps.text (clz (usN x).cls) (prN (usN x)) t) => (Cps.text_mem t h).imp id (fun ⟨a, b, g⟩ => prim_pr g))
      have HPL := Lib.hid (fun (h : ∀ c ∈ t.tail, ∀ a, prN (usN x) a c = none) => Cps.text_plain (cl := clz (usN x).cls) t h)
      have HSN := Lib.hid (fun L (hL : PairsOk (usN x) L) b (hb : hasR (canR (secR L)) b = false) => sec_none (usN_ok x) hL hb)
      have hlen := Cps.text_len (cl := clz (usN x).cls) (pr := prN (usN x)) t
      clear SZ HOK
      generalize Cps.text (clz (usN x).cls) (prN (usN x)) t = z at *
      have p0 := (X0.below hb1 X0.lt).cell (i := 0) rfl
      have p1 := (X0.below hb1 X0.lt).cell (i := 1) rfl
      have p2 := (X0.below hb1 X0.lt).cell (i := 2) rfl
      go_wp2_with fail
      with_reducible refine (KC.out W1 hb1).mono ?_
      rintro e W2 ⟨E, d, rfl, hd, hE, hbe2⟩
      have hb2 := hb1.trans (hbe2.mono hb1.size)
      have HE := Lib.hid hE
      clear p0 p1 p2 hbe2 KC hE
      have p0 := (X0.below hb2 X0.lt).cell (i := 0) rfl
      have p1 := (X0.below hb2 X0.lt).cell (i := 1) rfl
      have p2 := (X0.below hb2 X0.lt).cell (i := 2) rfl
      go_wp2_with fail
      with_reducible refine (KS.out W2 hb2).mono ?_
      rintro e W3 ⟨L, hPO, hLL, F, f, rfl, hf, hF, hbe3⟩
      have HSN := Lib.hid (fun b hb => HSN.out L hPO b hb)
      have hrl : (canR (secR L)).length ≤ 1048576 := by
        have := canR_len (secR L)
        rw [secR_len] at this
        omega
      generalize canR (secR L) = R at *
      have hal := (Below.refl W3.heap.size W3).alloc (Nat.le_refl _) (.cells #[.slice F R.length f] 26)
      have hb3 := (hb2.trans (hbe3.mono hb2.size)).trans (hal.mono (hb2.trans (hbe3.mono hb2.size)).size)
      have HE3 := Lib.hid (HE.out.below (hbe3.trans (hal.mono hbe3.size)))
      have HF3 := Lib.hid (Rgs.below hF hal)
      have HX3 : Box (W3.alloc (.cells #[.slice F R.length f] 26)) W3.heap.size 26 [.slice F R.length f] := Box.new W3 _ _ rfl
      have WaE : ∃ Wa, W3.alloc (.cells #[.slice F R.length f] 26) = Wa := ⟨_, rfl⟩
      clear p0 p1 p2 hbe3 KS hF hPO hal HE
      go_wp2_with fail
      obtain ⟨Wa, hWa⟩ := WaE
      try rw [hWa] at hb3 HE3 HF3 HX3 ⊢
      clear hWa
      have XS := Lib.hid HX3
      have xsl := HX3.lt
      clear HX3
      have KH := Lib.hid (fun c W (hb' : Below Wa.heap.size Wa W) => refHas_any F R.length f R c W (HF3.out.below hb') rfl hrl)
      go_loopw [7, 8] (fun v u wr => ∃ (i : Nat) (pl : Bool), 1 ≤ i ∧ u = .int .i64 i ∧ v = .bool pl ∧ (pl = true → ∀ j, 1 ≤ j → j < i → (hj : j < t.length) → hasR R t[j] = false) ∧ Below Wa.heap.size Wa wr) (fun _ u _ => t.length - (intOf u).toNat)
      case atStart => exact ⟨1, true, Nat.le_refl _, rfl, rfl, fun _ j h1 h2 => by omega, Below.refl _ _⟩
      case round =>
        obtain ⟨i, pl, hi, rfl, rfl, hall, hbr⟩ := hrel
        have HALL := Lib.hid hall
        clear hall
        by_cases hlt : i < t.length
        · obtain ⟨b1, o1, rfl, hcell⟩ := (HA.out wr (B0.trans ((hb3.trans (hbr.mono hb3.size)).mono B0.size))).at hlt
          have c1 := hcell i hlt
          have s1 := (XS.out.below hbr xsl).cell (i := 0) rfl
          have HUP := Lib.hid (fun (h : hasR R t[i] = false) (hp : pl = true) => show ∀ j, 1 ≤ j → j < i + 1 → (hj : j < t.length) → hasR R t[j] = false from fun j h1 h2 hj => by
            rcases Nat.lt_or_ge j i with g | g
            · exact HALL.out hp j h1 g hj
            · have e : j = i := by omega
              subst e
              exact h)
          have KHI := Lib.hid (fun W hb' => KH.out t[i] W hb')
          clear hcell HALL
          generalize t[i] = ti at *
          generalize hasR R ti = hb0 at *
          have SG := Lib.hid (fun W' (hb' : Below wr.heap.size wr W') => show W'.cell? ⟨W3.heap.size, 0, none⟩ = some (.slice F R.length f) ∧ W'.cell? ⟨b1, o1 + i, none⟩ = some (.int .i64 ti) ∧ Below wr.heap.size wr W' from ⟨(hb'.cell (World.block_lt_of_cell? _ _ s1)).trans s1, (hb'.cell (World.block_lt_of_cell? _ _ c1)).trans c1, hb'⟩)
          have KHH := Lib.hid (fun W (hb' : Below wr.heap.size wr W) => (KHI.out W (hbr.trans (hb'.mono hbr.size))).mono (R' := fun e W' => e = .returned (.bool hb0) ∧ (W'.cell? ⟨W3.heap.size, 0, none⟩ = some (.slice F R.length f) ∧ W'.cell? ⟨b1, o1 + i, none⟩ = some (.int .i64 ti) ∧ Below wr.heap.size wr W')) (fun e W' hh => ⟨hh.1, SG.out W' (hb'.trans (hh.2.mono hb'.size))⟩))
          cases pl with
          | false =>
            go_wp2_with fail
            refine wp_region_held_drew (S := fun W' => W'.cell? ⟨W3.heap.size, 0, none⟩ = some (.slice F R.length f) ∧ W'.cell? ⟨b1, o1 + i, none⟩ = some (.int .i64 ti) ∧ Below wr.heap.size wr W') (by kernel_rfl) (SG.out _ ((Below.refl _ _).drew)) (fun hHeld => ?_)
            refine anyH_take (i := 0) (v := ?_) (some 30) rfl rfl (by kernel_rfl) (by kernel_rfl) (by kernel_rfl) (fun _ _ _ h => h) (by rfl) (by assumption) ?_ ?_
            rotate_left
            · intro w hSw; (try dsimp only at hSw); go_split_ands; go_simp; try (with_reducible rfl)
            try simp only [Act.put, List.setIfInBounds_toArray, List.set_cons_zero, List.set_cons_succ]
            refine anyH_take (i := 1) (v := ?_) (some 31) rfl rfl (by kernel_rfl) (by kernel_rfl) (by kernel_rfl) (fun _ _ _ h => h) (by rfl) (by assumption) ?_ ?_
            rotate_left
            · intro w hSw; (try dsimp only at hSw); go_split_ands; go_simp; try (with_reducible rfl)
            try simp only [Act.put, List.setIfInBounds_toArray, List.set_cons_zero, List.set_cons_succ]
            refine anyH_skip (i := 2) (some 32) rfl rfl (by kernel_rfl) (by kernel_rfl) (by kernel_rfl) (fun _ _ _ h => h) (by rfl) (by assumption) ?_
            try simp only [Act.put, List.setIfInBounds_toArray, List.set_cons_zero, List.set_cons_succ]
            refine anyH_skip (i := 3) (some 33) rfl rfl (by kernel_rfl) (by kernel_rfl) (by kernel_rfl) (fun _ _ _ h => h) (by rfl) (by assumption) ?_
            try simp only [Act.put, List.setIfInBounds_toArray, List.set_cons_zero, List.set_cons_succ]
            refine anyH_skip (i := 4) (some 34) rfl rfl (by kernel_rfl) (by kernel_rfl) (by kernel_rfl) (fun _ _ _ h => h) (by rfl) (by assumption) ?_
            try simp only [Act.put, List.setIfInBounds_toArray, List.set_cons_zero, List.set_cons_succ]
            refine anyH_skip (i := 5) (some 35) rfl rfl (by kernel_rfl) (by kernel_rfl) (by kernel_rfl) (fun _ _ _ h => h) (by rfl) (by assumption) ?_
            try simp only [Act.put, List.setIfInBounds_toArray, List.set_cons_zero, List.set_cons_succ]
            refine anyH_skip (i := 6) (some 36) rfl rfl (by kernel_rfl) (by kernel_rfl) (by kernel_rfl) (fun _ _ _ h => h) (by rfl) (by assumption) ?_
            try simp only [Act.put, List.setIfInBounds_toArray, List.set_cons_zero, List.set_cons_succ]
            refine anyH_skip (i := 7) (some 37) rfl rfl (by kernel_rfl) (by kernel_rfl) (by kernel_rfl) (fun _ _ _ h => h) (by rfl) (by assumption) ?_
            try simp only [Act.put, List.setIfInBounds_toArray, List.set_cons_zero, List.set_cons_succ]
            refine anyH_skip (i := 8) (some 38) rfl rfl (by kernel_rfl) (by kernel_rfl) (by kernel_rfl) (fun _ _ _ h => h) (by rfl) (by assumption) ?_
            try simp only [Act.put, List.setIfInBounds_toArray, List.set_cons_zero, List.set_cons_succ]
            refine anyH_take (i := 9) (v := ?_) (some 39) rfl rfl (by kernel_rfl) (by kernel_rfl) (by kernel_rfl) (fun _ _ _ h => h) (by rfl) (by assumption) ?_ ?_
            rotate_left
            · intro w hSw; (try dsimp only at hSw); go_split_ands; go_simp; try (with_reducible rfl)
            try simp only [Act.put, List.setIfInBounds_toArray, List.set_cons_zero, List.set_cons_succ]
            refine anyH_take (i := 10) (v := ?_) (some 7) rfl rfl (by kernel_rfl) (by kernel_rfl) (by kernel_rfl) (fun _ _ _ h => h) (by rfl) (by assumption) ?_ ?_
            rotate_left
            · intro w hSw; (try dsimp only at hSw); go_split_ands; go_simp; try (with_reducible rfl)
            try simp only [Act.put, List.setIfInBounds_toArray, List.set_cons_zero, List.set_cons_succ]
            refine wpAnyH_done (by kernel_rfl) ?_ _
            have hbz := hbr.trans (hHeld.2.2.mono hbr.size)
            clear hHeld SG KHH
            go_wp2_with fail
            go_roundw
            case rel => exact ⟨i + 1, false, by omega, by go_num, rfl, (fun h => by cases h), hbz⟩
            case measure => simp [intOf]; omega
          | true =>
            go_wp2_with fail
            refine wp_region_held_drew (S := fun W' => W'.cell? ⟨W3.heap.size, 0, none⟩ = some (.slice F R.length f) ∧ W'.cell? ⟨b1, o1 + i, none⟩ = some (.int .i64 ti) ∧ Below wr.heap.size wr W') (by kernel_rfl) (SG.out _ ((Below.refl _ _).drew)) (fun hHeld => ?_)
            refine anyH_take (i := 0) (v := ?_) (some 30) rfl rfl (by kernel_rfl) (by kernel_rfl) (by kernel_rfl) (fun _ _ _ h => h) (by rfl) (by assumption) ?_ ?_
            rotate_left
            · intro w hSw; (try dsimp only at hSw); go_split_ands; go_simp; try (with_reducible rfl)
            try simp only [Act.put, List.setIfInBounds_toArray, List.set_cons_zero, List.set_cons_succ]
            refine anyH_take (i := 1) (v := ?_) (some 31) rfl rfl (by kernel_rfl) (by kernel_rfl) (by kernel_rfl) (fun _ _ _ h => h) (by rfl) (by assumption) ?_ ?_
            rotate_left
            · intro w hSw; (try dsimp only at hSw); go_split_ands; go_simp; try (with_reducible rfl)
            try simp only [Act.put, List.setIfInBounds_toArray, List.set_cons_zero, List.set_cons_succ]
            refine anyH_take (i := 2) (v := ?_) (some 32) rfl rfl (by kernel_rfl) (by kernel_rfl) (by kernel_rfl) (fun _ _ _ h => h) (by rfl) (by assumption) ?_ ?_
            rotate_left
            · intro w hSw; (try dsimp only at hSw); go_split_ands; go_simp; try (with_reducible rfl)
            try simp only [Act.put, List.setIfInBounds_toArray, List.set_cons_zero, List.set_cons_succ]
            refine anyH_take (i := 3) (v := ?_) (some 33) rfl rfl (by kernel_rfl) (by kernel_rfl) (by kernel_rfl) (fun _ _ _ h => h) (by rfl) (by assumption) ?_ ?_
            rotate_left
            · intro w hSw; (try dsimp only at hSw); go_split_ands; go_simp; try (with_reducible rfl)
            try simp only [Act.put, List.setIfInBounds_toArray, List.set_cons_zero, List.set_cons_succ]
            refine anyH_take (i := 4) (v := ?_) (some 34) rfl rfl (by kernel_rfl) (by kernel_rfl) (by kernel_rfl) (fun _ _ _ h => h) (by rfl) (by assumption) ?_ ?_
            rotate_left
            · intro w hSw; (try dsimp only at hSw); go_split_ands; go_simp; try (with_reducible rfl)
            try simp only [Act.put, List.setIfInBounds_toArray, List.set_cons_zero, List.set_cons_succ]
            refine anyH_take (i := 5) (v := ?_) (some 35) rfl rfl (by kernel_rfl) (by kernel_rfl) (by kernel_rfl) (fun _ _ _ h => h) (by rfl) (by assumption) ?_ ?_
            rotate_left
            · intro w hSw; (try dsimp only at hSw); go_split_ands; go_simp; try (with_reducible rfl)
            try simp only [Act.put, List.setIfInBounds_toArray, List.set_cons_zero, List.set_cons_succ]
            refine anyH_take (i := 6) (v := ?_) (some 36) rfl rfl (by kernel_rfl) (by kernel_rfl) (by kernel_rfl) (fun _ _ _ h => h) (by rfl) (by assumption) ?_ ?_
            rotate_left
            · intro w hSw; (try dsimp only at hSw); go_split_ands; go_simp; try (with_reducible rfl)
            try simp only [Act.put, List.setIfInBounds_toArray, List.set_cons_zero, List.set_cons_succ]
            refine anyH_call (i := 7) (some 37) rfl rfl (by kernel_rfl) (by rfl) (by go_simp) (KHH.out _ hHeld.2.2) (fun Wh hS6 => ?_)
            clear hHeld
            have hHeld := hS6
            clear hS6
            try simp only [Act.put, List.setIfInBounds_toArray, List.set_cons_zero, List.set_cons_succ]
            refine anyH_take (i := 8) (v := ?_) (some 38) rfl rfl (by kernel_rfl) (by kernel_rfl) (by kernel_rfl) (fun _ _ _ h => h) (by rfl) (by assumption) ?_ ?_
            rotate_left
            · intro w hSw; (try dsimp only at hSw); go_split_ands; go_simp; try (with_reducible rfl)
            try simp only [Act.put, List.setIfInBounds_toArray, List.set_cons_zero, List.set_cons_succ]
            refine anyH_take (i := 9) (v := ?_) (some 39) rfl rfl (by kernel_rfl) (by kernel_rfl) (by kernel_rfl) (fun _ _ _ h => h) (by rfl) (by assumption) ?_ ?_
            rotate_left
            · intro w hSw; (try dsimp only at hSw); go_split_ands; go_simp; try (with_reducible rfl)
            try simp only [Act.put, List.setIfInBounds_toArray, List.set_cons_zero, List.set_cons_succ]
            refine anyH_take (i := 10) (v := ?_) (some 7) rfl rfl (by kernel_rfl) (by kernel_rfl) (by kernel_rfl) (fun _ _ _ h => h) (by rfl) (by assumption) ?_ ?_
            rotate_left
            · intro w hSw; (try dsimp only at hSw); go_split_ands; go_simp; try (with_reducible rfl)
            try simp only [Act.put, List.setIfInBounds_toArray, List.set_cons_zero, List.set_cons_succ]
            refine wpAnyH_done (by kernel_rfl) ?_ _
            have hbz := hbr.trans (hHeld.2.2.mono hbr.size)
            clear hHeld SG KHH
            go_wp2_with fail
            go_roundw
            case rel => exact ⟨i + 1, !hb0, by omega, by go_num, rfl, fun h => HUP.out (by simpa using h) (by simp), hbz⟩
            case measure => simp [intOf]; omega
        · have HPT := Lib.hid (fun (h : pl = true) => HPL.out (tail_all (P := fun c => ∀ a, prN (usN x) a c = none) (fun j h1 hj => HSN.out _ (HALL.out h j h1 (by omega) hj))))
          have hb4 := hb3.trans (hbr.mono hb3.size)
          have HE4 := Lib.hid (HE3.out.below hbr)
          obtain ⟨W4, rfl⟩ : ∃ W4 : World, W4 = wr := ⟨_, rfl⟩
          clear HALL HPL HSN HE3 HF3 KH XS
          go_wp2_with fail
          go_loopw [9] (fun u wr => ∃ k : Nat, u = .int .i64 k ∧ Below W4.heap.size W4 wr) (fun u _ => z.length - (intOf u).toNat)
          case atStart => exact ⟨0, rfl, Below.refl _ _⟩
          case round =>
            obtain ⟨k, rfl, hbq⟩ := hrel
            have hb5 := hb4.trans (hbq.mono hb4.size)
            by_cases hkl : k < z.length
            · obtain ⟨b2, o2, rfl, hcell⟩ := (HE4.out.below hbq).at hkl
              have c2 := hcell k hkl
              have HMK := Lib.hid (HMM.out z[k] (List.getElem_mem hkl))
              clear hcell
              generalize z[k] = zk at *
              have p0 := (X0.below hb5 X0.lt).cell (i := 0) rfl
              have p1 := (X0.below hb5 X0.lt).cell (i := 1) rfl
              have p2 := (X0.below hb5 X0.lt).cell (i := 2) rfl
              have SG := Lib.hid (fun W' (hb' : Below wr.heap.size wr W') => show W'.cell? ⟨w.heap.size, 0, none⟩ = some (.slice A0 x.cls.length k0) ∧ W'.cell? ⟨w.heap.size, 1, none⟩ = some (.slice A1 x.dec.length k1) ∧ W'.cell? ⟨w.heap.size, 2, none⟩ = some (.slice A2 x.exc.length k2) ∧ W'.cell? ⟨b2, o2 + k, none⟩ = some (.int .i64 zk) ∧ Below wr.heap.size wr W' from ⟨(hb'.cell (World.block_lt_of_cell? _ _ p0)).trans p0, (hb'.cell (World.block_lt_of_cell? _ _ p1)).trans p1, (hb'.cell (World.block_lt_of_cell? _ _ p2)).trans p2, (hb'.cell (World.block_lt_of_cell? _ _ c2)).trans c2, hb'⟩)
              have KHH := Lib.hid (fun W (hb' : Below wr.heap.size wr W) => (has_any A t.length a t zk W (HA.out W (B0.trans ((hb5.trans (hb'.mono hb5.size)).mono B0.size))) rfl (by omega)).mono (R' := fun e W' => e = .returned (.bool (decide (zk ∈ t))) ∧ (W'.cell? ⟨w.heap.size, 0, none⟩ = some (.slice A0 x.cls.length k0) ∧ W'.cell? ⟨w.heap.size, 1, none⟩ = some (.slice A1 x.dec.length k1) ∧ W'.cell? ⟨w.heap.size, 2, none⟩ = some (.slice A2 x.exc.length k2) ∧ W'.cell? ⟨b2, o2 + k, none⟩ = some (.int .i64 zk) ∧ Below wr.heap.size wr W')) (fun e W' hh => ⟨hh.1, SG.out W' (by rw [← hh.2]; exact hb')⟩))
              have KYY := Lib.hid (fun W (hb' : Below wr.heap.size wr W) => (KY.out zk W (hb5.trans (hb'.mono hb5.size))).mono (R' := fun e W' => e = .returned (.bool (primB (usN x) zk)) ∧ (W'.cell? ⟨w.heap.size, 0, none⟩ = some (.slice A0 x.cls.length k0) ∧ W'.cell? ⟨w.heap.size, 1, none⟩ = some (.slice A1 x.dec.length k1) ∧ W'.cell? ⟨w.heap.size, 2, none⟩ = some (.slice A2 x.exc.length k2) ∧ W'.cell? ⟨b2, o2 + k, none⟩ = some (.int .i64 zk) ∧ Below wr.heap.size wr W')) (fun e W' hh => ⟨hh.1, SG.out W' (hb'.trans (hh.2.mono hb'.size))⟩))
              by_cases hin : zk ∈ t
              · have e1 : decide (zk ∈ t) = true := decide_eq_true hin
                rw [e1] at KHH
                clear hin e1 HMK
                go_wp2_with fail
                refine wp_region_held_drew (S := fun W' => W'.cell? ⟨w.heap.size, 0, none⟩ = some (.slice A0 x.cls.length k0) ∧ W'.cell? ⟨w.heap.size, 1, none⟩ = some (.slice A1 x.dec.length k1) ∧ W'.cell? ⟨w.heap.size, 2, none⟩ = some (.slice A2 x.exc.length k2) ∧ W'.cell? ⟨b2, o2 + k, none⟩ = some (.int .i64 zk) ∧ Below wr.heap.size wr W') (by kernel_rfl) (SG.out _ ((Below.refl _ _).drew)) (fun hHeld => ?_)
                refine anyH_take (i := 0) (v := ?_) (some 46) rfl rfl (by kernel_rfl) (by kernel_rfl) (by kernel_rfl) (fun _ _ _ h => h) (by rfl) (by assumption) ?_ ?_
                rotate_left
                · intro w hSw; (try dsimp only at hSw); go_split_ands; go_simp; try (with_reducible rfl)
                try simp only [Act.put, List.setIfInBounds_toArray, List.set_cons_zero, List.set_cons_succ]
                refine anyH_take (i := 1) (v := ?_) (some 47) rfl rfl (by kernel_rfl) (by kernel_rfl) (by kernel_rfl) (fun _ _ _ h => h) (by rfl) (by assumption) ?_ ?_
                rotate_left
                · intro w hSw; (try dsimp only at hSw); go_split_ands; go_simp; try (with_reducible rfl)
                try simp only [Act.put, List.setIfInBounds_toArray, List.set_cons_zero, List.set_cons_succ]
                refine anyH_take (i := 2) (v := ?_) (some 48) rfl rfl (by kernel_rfl) (by kernel_rfl) (by kernel_rfl) (fun _ _ _ h => h) (by rfl) (by assumption) ?_ ?_
                rotate_left
                · intro w hSw; (try dsimp only at hSw); go_split_ands; go_simp; try (with_reducible rfl)
                try simp only [Act.put, List.setIfInBounds_toArray, List.set_cons_zero, List.set_cons_succ]
                refine anyH_take (i := 3) (v := ?_) (some 49) rfl rfl (by kernel_rfl) (by kernel_rfl) (by kernel_rfl) (fun _ _ _ h => h) (by rfl) (by assumption) ?_ ?_
                rotate_left
                · intro w hSw; (try dsimp only at hSw); go_split_ands; go_simp; try (with_reducible rfl)
                try simp only [Act.put, List.setIfInBounds_toArray, List.set_cons_zero, List.set_cons_succ]
                refine anyH_take (i := 4) (v := ?_) (some 50) rfl rfl (by kernel_rfl) (by kernel_rfl) (by kernel_rfl) (fun _ _ _ h => h) (by rfl) (by assumption) ?_ ?_
                rotate_left
                · intro w hSw; (try dsimp only at hSw); go_split_ands; go_simp; try (with_reducible rfl)
                try simp only [Act.put, List.setIfInBounds_toArray, List.set_cons_zero, List.set_cons_succ]
                refine anyH_call (i := 5) (some 51) rfl rfl (by kernel_rfl) (by rfl) (by go_simp) (KHH.out _ hHeld.2.2.2.2) (fun Wh hS6 => ?_)
                clear hHeld
                have hHeld := hS6
                clear hS6
                try simp only [Act.put, List.setIfInBounds_toArray, List.set_cons_zero, List.set_cons_succ]
                refine anyH_take (i := 6) (v := ?_) (some 52) rfl rfl (by kernel_rfl) (by kernel_rfl) (by kernel_rfl) (fun _ _ _ h => h) (by rfl) (by assumption) ?_ ?_
                rotate_left
                · intro w hSw; (try dsimp only at hSw); go_split_ands; go_simp; try (with_reducible rfl)
                try simp only [Act.put, List.setIfInBounds_toArray, List.set_cons_zero, List.set_cons_succ]
                refine anyH_take (i := 7) (v := ?_) (some 53) rfl rfl (by kernel_rfl) (by kernel_rfl) (by kernel_rfl) (fun _ _ _ h => h) (by rfl) (by assumption) ?_ ?_
                rotate_left
                · intro w hSw; (try dsimp only at hSw); go_split_ands; go_simp; try (with_reducible rfl)
                try simp only [Act.put, List.setIfInBounds_toArray, List.set_cons_zero, List.set_cons_succ]
                refine anyH_skip (i := 8) (some 54) rfl rfl (by kernel_rfl) (by kernel_rfl) (by kernel_rfl) (fun _ _ _ h => h) (by rfl) (by assumption) ?_
                try simp only [Act.put, List.setIfInBounds_toArray, List.set_cons_zero, List.set_cons_succ]
                refine anyH_skip (i := 9) (some 55) rfl rfl (by kernel_rfl) (by kernel_rfl) (by kernel_rfl) (fun _ _ _ h => h) (by rfl) (by assumption) ?_
                try simp only [Act.put, List.setIfInBounds_toArray, List.set_cons_zero, List.set_cons_succ]
                refine anyH_skip (i := 10) (some 56) rfl rfl (by kernel_rfl) (by kernel_rfl) (by kernel_rfl) (fun _ _ _ h => h) (by rfl) (by assumption) ?_
                try simp only [Act.put, List.setIfInBounds_toArray, List.set_cons_zero, List.set_cons_succ]
                refine anyH_skip (i := 11) (some 57) rfl rfl (by kernel_rfl) (by kernel_rfl) (by kernel_rfl) (fun _ _ _ h => h) (by rfl) (by assumption) ?_
                try simp only [Act.put, List.setIfInBounds_toArray, List.set_cons_zero, List.set_cons_succ]
                refine anyH_skip (i := 12) (some 58) rfl rfl (by kernel_rfl) (by kernel_rfl) (by kernel_rfl) (fun _ _ _ h => h) (by rfl) (by assumption) ?_
                try simp only [Act.put, List.setIfInBounds_toArray, List.set_cons_zero, List.set_cons_succ]
                refine anyH_skip (i := 13) (some 59) rfl rfl (by kernel_rfl) (by kernel_rfl) (by kernel_rfl) (fun _ _ _ h => h) (by rfl) (by assumption) ?_
                try simp only [Act.put, List.setIfInBounds_toArray, List.set_cons_zero, List.set_cons_succ]
                refine anyH_skip (i := 14) (some 60) rfl rfl (by kernel_rfl) (by kernel_rfl) (by kernel_rfl) (fun _ _ _ h => h) (by rfl) (by assumption) ?_
                try simp only [Act.put, List.setIfInBounds_toArray, List.set_cons_zero, List.set_cons_succ]
                refine anyH_take (i := 15) (v := ?_) (some 61) rfl rfl (by kernel_rfl) (by kernel_rfl) (by kernel_rfl) (fun _ _ _ h => h) (by rfl) (by assumption) ?_ ?_
                rotate_left
                · intro w hSw; (try dsimp only at hSw); go_split_ands; go_simp; try (with_reducible rfl)
                try simp only [Act.put, List.setIfInBounds_toArray, List.set_cons_zero, List.set_cons_succ]
                refine wpAnyH_done (by kernel_rfl) ?_ _
                have hbz := hbq.trans (hHeld.2.2.2.2.mono hbq.size)
                clear hHeld SG KHH KYY
                go_wp2_with fail
                go_roundw
                case rel => exact ⟨k + 1, by go_num, hbz⟩
                case measure => simp [intOf]; omega
              · have e1 : decide (zk ∈ t) = false := decide_eq_false hin
                have e2 : primB (usN x) zk = true := HMK.out.resolve_left hin
                rw [e1] at KHH
                rw [e2] at KYY
                clear hin e1 e2 HMK
                go_wp2_with fail
                refine wp_region_held_drew (S := fun W' => W'.cell? ⟨w.heap.size, 0, none⟩ = some (.slice A0 x.cls.length k0) ∧ W'.cell? ⟨w.heap.size, 1, none⟩ = some (.slice A1 x.dec.length k1) ∧ W'.cell? ⟨w.heap.size, 2, none⟩ = some (.slice A2 x.exc.length k2) ∧ W'.cell? ⟨b2, o2 + k, none⟩ = some (.int .i64 zk) ∧ Below wr.heap.size wr W') (by kernel_rfl) (SG.out _ ((Below.refl _ _).drew)) (fun hHeld => ?_)
                refine anyH_take (i := 0) (v := ?_) (some 46) rfl rfl (by kernel_rfl) (by kernel_rfl) (by kernel_rfl) (fun _ _ _ h => h) (by rfl) (by assumption) ?_ ?_
                rotate_left
                · intro w hSw; (try dsimp only at hSw); go_split_ands; go_simp; try (with_reducible rfl)
                try simp only [Act.put, List.setIfInBounds_toArray, List.set_cons_zero, List.set_cons_succ]
                refine anyH_take (i := 1) (v := ?_) (some 47) rfl rfl (by kernel_rfl) (by kernel_rfl) (by kernel_rfl) (fun _ _ _ h => h) (by rfl) (by assumption) ?_ ?_
                rotate_left
                · intro w hSw; (try dsimp only at hSw); go_split_ands; go_simp; try (with_reducible rfl)
                try simp only [Act.put, List.setIfInBounds_toArray, List.set_cons_zero, List.set_cons_succ]
                refine anyH_take (i := 2) (v := ?_) (some 48) rfl rfl (by kernel_rfl) (by kernel_rfl) (by kernel_rfl) (fun _ _ _ h => h) (by rfl) (by assumption) ?_ ?_
                rotate_left
                · intro w hSw; (try dsimp only at hSw); go_split_ands; go_simp; try (with_reducible rfl)
                try simp only [Act.put, List.setIfInBounds_toArray, List.set_cons_zero, List.set_cons_succ]
                refine anyH_take (i := 3) (v := ?_) (some 49) rfl rfl (by kernel_rfl) (by kernel_rfl) (by kernel_rfl) (fun _ _ _ h => h) (by rfl) (by assumption) ?_ ?_
                rotate_left
                · intro w hSw; (try dsimp only at hSw); go_split_ands; go_simp; try (with_reducible rfl)
                try simp only [Act.put, List.setIfInBounds_toArray, List.set_cons_zero, List.set_cons_succ]
                refine anyH_take (i := 4) (v := ?_) (some 50) rfl rfl (by kernel_rfl) (by kernel_rfl) (by kernel_rfl) (fun _ _ _ h => h) (by rfl) (by assumption) ?_ ?_
                rotate_left
                · intro w hSw; (try dsimp only at hSw); go_split_ands; go_simp; try (with_reducible rfl)
                try simp only [Act.put, List.setIfInBounds_toArray, List.set_cons_zero, List.set_cons_succ]
                refine anyH_call (i := 5) (some 51) rfl rfl (by kernel_rfl) (by rfl) (by go_simp) (KHH.out _ hHeld.2.2.2.2) (fun Wh hS6 => ?_)
                clear hHeld
                have hHeld := hS6
                clear hS6
                try simp only [Act.put, List.setIfInBounds_toArray, List.set_cons_zero, List.set_cons_succ]
                refine anyH_take (i := 6) (v := ?_) (some 52) rfl rfl (by kernel_rfl) (by kernel_rfl) (by kernel_rfl) (fun _ _ _ h => h) (by rfl) (by assumption) ?_ ?_
                rotate_left
                · intro w hSw; (try dsimp only at hSw); go_split_ands; go_simp; try (with_reducible rfl)
                try simp only [Act.put, List.setIfInBounds_toArray, List.set_cons_zero, List.set_cons_succ]
                refine anyH_take (i := 7) (v := ?_) (some 53) rfl rfl (by kernel_rfl) (by kernel_rfl) (by kernel_rfl) (fun _ _ _ h => h) (by rfl) (by assumption) ?_ ?_
                rotate_left
                · intro w hSw; (try dsimp only at hSw); go_split_ands; go_simp; try (with_reducible rfl)
                try simp only [Act.put, List.setIfInBounds_toArray, List.set_cons_zero, List.set_cons_succ]
                refine anyH_take (i := 8) (v := ?_) (some 54) rfl rfl (by kernel_rfl) (by kernel_rfl) (by kernel_rfl) (fun _ _ _ h => h) (by rfl) (by assumption) ?_ ?_
                rotate_left
                · intro w hSw; (try dsimp only at hSw); go_split_ands; go_simp; try (with_reducible rfl)
                try simp only [Act.put, List.setIfInBounds_toArray, List.set_cons_zero, List.set_cons_succ]
                refine anyH_take (i := 9) (v := ?_) (some 55) rfl rfl (by kernel_rfl) (by kernel_rfl) (by kernel_rfl) (fun _ _ _ h => h) (by rfl) (by assumption) ?_ ?_
                rotate_left
                · intro w hSw; (try dsimp only at hSw); go_split_ands; go_simp; try (with_reducible rfl)
                try simp only [Act.put, List.setIfInBounds_toArray, List.set_cons_zero, List.set_cons_succ]
                refine anyH_take (i := 10) (v := ?_) (some 56) rfl rfl (by kernel_rfl) (by kernel_rfl) (by kernel_rfl) (fun _ _ _ h => h) (by rfl) (by assumption) ?_ ?_
                rotate_left
                · intro w hSw; (try dsimp only at hSw); go_split_ands; go_simp; try (with_reducible rfl)
                try simp only [Act.put, List.setIfInBounds_toArray, List.set_cons_zero, List.set_cons_succ]
                refine anyH_take (i := 11) (v := ?_) (some 57) rfl rfl (by kernel_rfl) (by kernel_rfl) (by kernel_rfl) (fun _ _ _ h => h) (by rfl) (by assumption) ?_ ?_
                rotate_left
                · intro w hSw; (try dsimp only at hSw); go_split_ands; go_simp; try (with_reducible rfl)
                try simp only [Act.put, List.setIfInBounds_toArray, List.set_cons_zero, List.set_cons_succ]
                refine anyH_take (i := 12) (v := ?_) (some 58) rfl rfl (by kernel_rfl) (by kernel_rfl) (by kernel_rfl) (fun _ _ _ h => h) (by rfl) (by assumption) ?_ ?_
                rotate_left
                · intro w hSw; (try dsimp only at hSw); go_split_ands; go_simp; try (with_reducible rfl)
                try simp only [Act.put, List.setIfInBounds_toArray, List.set_cons_zero, List.set_cons_succ]
                refine anyH_call (i := 13) (some 59) rfl rfl (by kernel_rfl) (by rfl) (by go_simp) (KYY.out _ hHeld.2.2.2.2) (fun Wi hS6 => ?_)
                clear hHeld
                have hHeld := hS6
                clear hS6
                try simp only [Act.put, List.setIfInBounds_toArray, List.set_cons_zero, List.set_cons_succ]
                refine anyH_take (i := 14) (v := ?_) (some 60) rfl rfl (by kernel_rfl) (by kernel_rfl) (by kernel_rfl) (fun _ _ _ h => h) (by rfl) (by assumption) ?_ ?_
                rotate_left
                · intro w hSw; (try dsimp only at hSw); go_split_ands; go_simp; try (with_reducible rfl)
                try simp only [Act.put, List.setIfInBounds_toArray, List.set_cons_zero, List.set_cons_succ]
                refine anyH_take (i := 15) (v := ?_) (some 61) rfl rfl (by kernel_rfl) (by kernel_rfl) (by kernel_rfl) (fun _ _ _ h => h) (by rfl) (by assumption) ?_ ?_
                rotate_left
                · intro w hSw; (try dsimp only at hSw); go_split_ands; go_simp; try (with_reducible rfl)
                try simp only [Act.put, List.setIfInBounds_toArray, List.set_cons_zero, List.set_cons_succ]
                refine wpAnyH_done (by kernel_rfl) ?_ _
                have hbz := hbq.trans (hHeld.2.2.2.2.mono hbq.size)
                clear hHeld SG KHH KYY
                go_wp2_with fail
                go_roundw
                case rel => exact ⟨k + 1, by go_num, hbz⟩
                case measure => simp [intOf]; omega
            · have dle : decide ((z.length : Int) ≤ (t.length : Int)) = true := by simp; omega
              have KK := Lib.hid (fun W => refKind_any 44032 W)
              have hk4 : Hg.kind 44032 = 4 := by rfl
              rw [hk4] at KK
              cases pl with
              | false =>
                go_wp2_with fail
                with_reducible refine (KK.out wr).mono ?_
                rintro e W6 ⟨rfl, rfl⟩
                go_wp2_with fail
                with_reducible refine (KA.out wr hb5).mono ?_
                rintro e W9 ⟨rfl, hb9⟩
                have hbn := B0.trans ((hb5.trans (hb9.mono hb5.size)).mono B0.size)
                go_wp2_with fail
                go_ret
                exact ⟨rfl, hbn⟩
              | true =>
                obtain rfl := HPT.out rfl
                have KE := Lib.hid ((Equal_any E A z.length z.length d a z z wr (HE4.out.below hbq) (HA.out wr (B0.trans (hb5.mono B0.size))) rfl rfl (by omega) (by omega)).mono (R' := fun e w' => e = .returned (.bool true) ∧ Qt wr w') (fun e w' h => ⟨by rw [h.1, decide_eq_true rfl], h.2⟩))
                go_wp2_with fail
                with_reducible refine KE.out.mono ?_
                rintro e W5 ⟨rfl, hq5⟩
                have hb6 := hb5.trans (hq5.below.mono hb5.size)
                go_wp2_with fail
                with_reducible refine (KK.out W5).mono ?_
                rintro e W6 ⟨rfl, rfl⟩
                go_wp2_with fail
                with_reducible refine (KA.out W5 hb6).mono ?_
                rintro e W9 ⟨rfl, hb9⟩
                have hbn := B0.trans ((hb6.trans (hb9.mono hb6.size)).mono B0.size)
                go_wp2_with fail
                go_ret
                exact ⟨rfl, hbn⟩

end Go.Proofs.YtjglanjfgbipmaaGreatDoor
