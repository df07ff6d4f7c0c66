/- Texts that are merged into one file: RefSec, Has, LawA. -/
import Derived.Test.YtjglanjfgbipmaaGreatDoorG01
import Derived.Test.YtjglanjfgbipmaaGreatDoorG02
import Derived.Test.YtjglanjfgbipmaaGreatDoorG17
import Derived.Test.YtjglanjfgbipmaaGreatDoorG26
import Derived.Test.YtjglanjfgbipmaaGreatDoorG28
import Derived.Test.YtjglanjfgbipmaaGreatDoorG29
import Derived.Test.YtjglanjfgbipmaaGreatDoorG30
/- Contracts of the reference's Primary and Second of composing. Written by gen_refsec.py. -/
namespace Go.Proofs.YtjglanjfgbipmaaGreatDoor
open Go.RowKit Go.Maps Go.WideMaps Go.Shelf

theorem tri_at {w : World} {A : Option Addr} {L : List (Int × Int × Int)} (h : Sl w A (L.flatMap encT)) {k : Nat} (hk : k < L.length) :
    ∃ b o, A = some ⟨b, o, none⟩ ∧ w.cell? ⟨b, o + k * 3, none⟩ = some (.int .i64 L[k].1) ∧ w.cell? ⟨b, o + k * 3 + 1, none⟩ = some (.int .i64 L[k].2.1) ∧ w.cell? ⟨b, o + k * 3 + 2, none⟩ = some (.int .i64 L[k].2.2) := by
  have hne : L.flatMap encT ≠ [] := by
    intro e
    have := congrArg List.length e
    rw [flatT_len] at this
    simp only [List.length_nil] at this
    omega
  obtain ⟨b, o, hA, hc⟩ := h hne
  have key : ∀ j u, (encT L[k])[j]? = some u → j < 3 → w.cell? ⟨b, o + (k * 3 + j), none⟩ = some u := by
    intro j u hu hj
    refine hc _ _ ?_
    have := flatK_get encT 3 (fun _ => rfl) L k j hk hj
    unfold flatK at this
    rw [this]
    exact hu
  exact ⟨b, o, hA, key 0 _ rfl (by omega), key 1 _ rfl (by omega), key 2 _ rfl (by omega)⟩

theorem prim_yes {x : Nrm} {c : Int} {L : List (Int × Int × Int)} (hL : PairsOk x L) {m : Nat} (hm : m < L.length) (h : L[m].2.2 = c) : primB x c = true := primB_iff.2 (.inr ((prim_list hL).1 ⟨_, List.getElem_mem hm, h⟩))
theorem prim_no {x : Nrm} {c : Int} {L : List (Int × Int × Int)} (h4 : Hg.kind c < 4) (hL : PairsOk x L) (h : ∀ m, (hm : m < L.length) → L[m].2.2 ≠ c) : primB x c = false := by
  rw [← Bool.not_eq_true, primB_iff]
  rintro (g | g)
  · omega
  · obtain ⟨t, ht, e⟩ := (prim_list hL).2 g
    obtain ⟨m, hm, rfl⟩ := List.mem_iff_getElem.1 ht
    exact h m hm e

set_option maxRecDepth 100000 in
set_option maxHeartbeats 3200000 in
theorem refPrimary_any (A0 : Option Addr) (n0 k0 : Nat) (A1 : Option Addr) (n1 k1 : Nat) (A2 : Option Addr) (n2 k2 : Nat) (x : Nrm) (c : Int) (w : World) (hN : NrmAt w A0 n0 A1 n1 A2 n2 x) (hz : NrmSz x) :
    Calls Tryz.prog 14 #[.agg #[.slice A0 n0 k0, .slice A1 n1 k1, .slice A2 n2 k2], .int .i64 c] w (RetBool (primB (usN x) c) w) := by
  have hB : Below w.heap.size w (w.alloc (.cells #[.slice A0 n0 k0, .slice A1 n1 k1, .slice A2 n2 k2] 28)) := (Below.refl _ _).alloc (Nat.le_refl _) _
  have hX : Box (w.alloc (.cells #[.slice A0 n0 k0, .slice A1 n1 k1, .slice A2 n2 k2] 28)) w.heap.size 28 [.slice A0 n0 k0, .slice A1 n1 k1, .slice A2 n2 k2] := Box.new w _ [.slice A0 n0 k0, .slice A1 n1 k1, .slice A2 n2 k2] rfl
  have PC := Lib.hid (refPairs_any A0 n0 k0 A1 n1 k1 A2 n2 k2 x _ (hN.below hB) hz)
  have HB := Lib.hid hB
  have HX := Lib.hid hX
  have z1 : (usN x).dec.length ≤ 1048576 := hz.us.z1.n
  have KC := Lib.hid (refKind_any c (w.alloc (.cells #[.slice A0 n0 k0, .slice A1 n1 k1, .slice A2 n2 k2] 28)))
  have HP4 := Lib.hid (fun (h : 4 ≤ Hg.kind c) => show primB (usN x) c = true from primB_iff.2 (.inl h))
  have HPY := Lib.hid (fun L (hL : PairsOk (usN x) L) m (hm : m < L.length) (h : L[m].2.2 = c) => prim_yes hL hm h)
  have HPN := Lib.hid (fun (h4 : Hg.kind c < 4) L (hL : PairsOk (usN x) L) h => prim_no (c := c) h4 hL h)
  clear hN hz hB hX
  generalize usN x = y at *
  generalize primB y c = pb at *
  generalize Hg.kind c = kc at *
  go_enter Tryz.func14, Tryz.ntmps14
  go_wp2_with fail
  with_reducible refine KC.out.mono ?_
  rintro e W0 ⟨rfl, rfl⟩
  by_cases h4 : 4 ≤ kc
  · obtain rfl := HP4.out h4
    go_wp2_with fail
    go_ret
    exact ⟨rfl, HB.out⟩
  · have HPN := Lib.hid (fun L hL h => HPN.out (by omega) L hL h)
    have g0 := HX.out.cell (i := 0) rfl
    have g1 := HX.out.cell (i := 1) rfl
    have g2 := HX.out.cell (i := 2) rfl
    go_wp2_with fail
    with_reducible refine PC.out.mono ?_
    rintro e W1 ⟨L, hL, hll, A, d, rfl, hd, hSo, hb1⟩
    have hS := Sl.of_own hSo
    have hb := HB.out.trans (hb1.mono HB.out.size)
    have HS := Lib.hid hS; have HY := Lib.hid (fun m hm h => HPY.out L hL m hm h); have HN := Lib.hid (fun h => HPN.out L hL h)
    clear hS hSo hL g0 g1 g2 PC HP4 HPY HPN h4 hb1
    go_wp2_with fail
    go_loop [6] (fun u => ∃ i : Nat, i ≤ L.length ∧ u = .int .i64 i ∧ (∀ m, (hm : m < L.length) → m < i → L[m].2.2 ≠ c)) (fun u => L.length - (intOf u).toNat)
    case atStart => exact ⟨0, Nat.zero_le _, rfl, fun t _ h => by omega⟩
    case round =>
      obtain ⟨i, hi, rfl, hno⟩ := hrel
      have HNO := Lib.hid hno
      clear hno
      by_cases hlt : i < L.length
      · obtain ⟨b1, o1, rfl, r0, r1, r2⟩ := tri_at HS.out hlt
        have HYI := Lib.hid (fun h => HY.out i hlt h)
        have HUP := Lib.hid (fun h => all_up (P := fun t : Int × Int × Int => t.2.2 ≠ c) hlt HNO.out h)
        clear r0 r1
        generalize L[i] = li at *
        by_cases he : li.2.2 = c
        · obtain rfl := HYI.out he
          have q1 : (li.2.2 == c) = true := by simpa using he
          clear he
          go_wp2_with fail
          go_ret
          exact ⟨rfl, hb⟩
        · have HQ := Lib.hid (HUP.out he)
          have q1 : (li.2.2 == c) = false := by simpa using he
          clear he
          go_wp2_with fail
          go_round
          case rel => exact ⟨i + 1, by omega, by go_num, HQ.out⟩
          case measure => simp [intOf]; omega
      · obtain rfl := HN.out (fun t ht => HNO.out t ht (by omega))
        go_wp2_with fail
        go_ret
        exact ⟨rfl, hb⟩

/-- a row of ranges is not in the block of a box that holds a slice -/
theorem rgs_off {W : World} {b : Nat} {t : TypeId} {v v' : Value} {E : Option Addr} {R : List Rg} (h : Rgs W E R) (hX : Box W b t [v]) (hv : ∀ z, v ≠ .int .i64 z) : Rgs (W.setCell ⟨b, 0, none⟩ v') E R := by
  intro hne
  obtain ⟨b', o, hA, hc⟩ := h hne
  refine ⟨b', o, hA, fun j u hu => ?_⟩
  have h1 := hc j u hu
  refine (World.cell?_setCell_far _ _ _ _ (fun e => ?_)).trans h1
  have e' : b = b' := e
  subst e'
  have hint : ∃ z, u = .int .i64 z := by
    have hm : u ∈ flatK Rg.cells R := List.mem_of_getElem? hu
    obtain ⟨r, _, hr⟩ := List.mem_flatMap.1 hm
    simp only [Rg.cells, List.mem_cons, List.not_mem_nil, or_false] at hr
    rcases hr with rfl | rfl
    · exact ⟨_, rfl⟩
    · exact ⟨_, rfl⟩
  obtain ⟨z, rfl⟩ := hint
  unfold Box at hX
  rcases hoj : o + j with _ | m
  · rw [hoj] at h1
    simp [World.cell?, hX] at h1
    exact hv z h1
  · rw [hoj] at h1
    simp [World.cell?, hX] at h1
theorem results_set1 {fn : Func} (hr : fn.results = #[.cell 2 26]) (tmps : Array Value) (w : World) {b : Nat} {v0 : Value} (ha : tmps.getD 2 undef = .pointer (some ⟨b, 0, none⟩)) (c0 : w.cell? ⟨b, 0, none⟩ = some v0) :
    (results fn tmps).run Tryz.prog w = .ok (.agg #[v0]) w := by
  unfold results
  rw [hr]
  simp only [ha, List.mapM_toArray, List.mapM_cons, List.mapM_nil, asAddr]
  go_simp
/-- the ranges after i pairs -/
def secP (L : List (Int × Int × Int)) : List Rg := secR L
theorem secP_take {L : List (Int × Int × Int)} {i : Nat} (hi : i < L.length) : secR (L.take (i + 1)) = secR (L.take i) ++ [⟨L[i].2.1, L[i].2.1⟩] := by
  unfold secR
  rw [List.take_succ_eq_append_getElem hi, List.map_append]
  rfl
theorem secR_len (L : List (Int × Int × Int)) : (secR L).length = L.length + 2 := by unfold secR; simp

set_option maxRecDepth 100000 in
set_option maxHeartbeats 6400000 in
theorem refSecond_any (A0 : Option Addr) (n0 k0 : Nat) (A1 : Option Addr) (n1 k1 : Nat) (A2 : Option Addr) (n2 k2 : Nat) (x : Nrm) (w : World) (hN : NrmAt w A0 n0 A1 n1 A2 n2 x) (hz : NrmSz x) (hsm : x.dec.length ≤ 40) :
    Calls Tryz.prog 24 #[.agg #[.slice A0 n0 k0, .slice A1 n1 k1, .slice A2 n2 k2]] w (fun e w' => ∃ L, PairsOk (usN x) L ∧ L.length ≤ 40 ∧ RetSet (canR (secR L)) w e w') := by
  have hB : Below w.heap.size w ((w.alloc (.cells #[.slice A0 n0 k0, .slice A1 n1 k1, .slice A2 n2 k2] 28)).alloc (.cells #[.slice none 0 0] 26)) := ((Below.refl _ _).alloc (Nat.le_refl _) _).alloc (by simp) _
  have hX : Box ((w.alloc (.cells #[.slice A0 n0 k0, .slice A1 n1 k1, .slice A2 n2 k2] 28)).alloc (.cells #[.slice none 0 0] 26)) w.heap.size 28 [.slice A0 n0 k0, .slice A1 n1 k1, .slice A2 n2 k2] := (Box.new w _ [.slice A0 n0 k0, .slice A1 n1 k1, .slice A2 n2 k2] rfl).below (B := w.heap.size + 1) ((Below.refl _ _).alloc (by simp) _) (by omega)
  have hY : Box ((w.alloc (.cells #[.slice A0 n0 k0, .slice A1 n1 k1, .slice A2 n2 k2] 28)).alloc (.cells #[.slice none 0 0] 26)) (w.heap.size + 1) 26 [.slice none 0 0] := Box.new _ _ _ (by simp)
  have W0E : ∃ W0, ((w.alloc (.cells #[.slice A0 n0 k0, .slice A1 n1 k1, .slice A2 n2 k2] 28)).alloc (.cells #[.slice none 0 0] 26)) = W0 := ⟨_, rfl⟩
  have hus : (usN x).dec.length ≤ 40 := by unfold usN; split; exact hsm; simp
  have PC := Lib.hid (fun W (hb : Below w.heap.size w W) => refPairs_any A0 n0 k0 A1 n1 k1 A2 n2 k2 x W (hN.below hb) hz)
  clear hN hz
  generalize usN x = y at *
  go_enter Tryz.func24, Tryz.ntmps24
  have hs0 : ((w.alloc (.cells #[.slice A0 n0 k0, .slice A1 n1 k1, .slice A2 n2 k2] 28)).alloc (.cells #[.slice none 0 0] 26)).heap.size = w.heap.size + 1 + 1 := by simp
  go_wp2_with fail
  obtain ⟨W0, hW0⟩ := W0E
  try rw [hW0] at hB hX hY hs0 ⊢
  clear hW0
  have hal := (Below.refl W0.heap.size W0).alloc (Nat.le_refl _) (.cells #[.int .i64 4449, .int .i64 4469, .int .i64 4520, .int .i64 4546] 69)
  have HR0 := Lib.hid (own_new (w := W0) (B := w.heap.size + 1 + 1) [.int .i64 4449, .int .i64 4469, .int .i64 4520, .int .i64 4546] 69 2 2 W0.heap.size hs0.symm rfl (Nat.le_refl _) (by omega))
  have hB1 := hB.trans (hal.mono hB.size)
  have X1 := hX.below hal hX.lt
  have Y0 := Lib.hid hY
  have g0 := X1.cell (i := 0) rfl
  have g1 := X1.cell (i := 1) rfl
  have g2 := X1.cell (i := 2) rfl
  have yl := hY.lt
  clear hX hY X1
  have HRL : W0.heap.size < (W0.alloc (.cells #[.int .i64 4449, .int .i64 4469, .int .i64 4520, .int .i64 4546] 69)).heap.size := by simp
  have W1E : ∃ W1, W0.alloc (.cells #[.int .i64 4449, .int .i64 4469, .int .i64 4520, .int .i64 4546] 69) = W1 := ⟨_, rfl⟩
  obtain ⟨W1, hW1⟩ := W1E
  try rw [hW1] at hal hB1 HR0 HRL ⊢
  clear hW1
  with_reducible refine (PC.out W1 hB1).mono ?_
  rintro e W2 ⟨L, hL, hll, A, d, rfl, hd, hS, hb2⟩
  have hll' : L.length ≤ 40 := by omega
  have HPL := Lib.hid hL
  have HS := Lib.hid hS
  have hB2 := hB1.trans (hb2.mono hB1.size)
  have h02 := hal.trans (hb2.mono hal.size)
  have HR2 := Lib.hid (own_keep HR0.out hb2)
  have h12 : W0.heap.size < W1.heap.size := HRL
  clear hL hS g0 g1 g2 PC HR0 hb2 hal
  have STK := Lib.hid (fun i (hi : i < L.length) => secP_take hi)
  have S0 := Lib.hid (show secR (L.take 0) = [⟨4449, 4469⟩, ⟨4520, 4546⟩] from rfl)
  have SE := Lib.hid (show secR (L.take L.length) = secR L from by rw [List.take_length])
  have SLN := Lib.hid (secR_len L)
  go_wp2_with fail
  go_loopw [3, 5] (fun v u wr => ∃ (i : Nat) (B : Option Addr) (c : Nat), i ≤ L.length ∧ u = .int .i64 i ∧ v = .slice B (i + 2) c ∧ wr.ownsRow W0.heap.size 69 2 (.slice B (i + 2) c) (i + 2) (flatK Rg.cells (secR (L.take i))) ∧ Below W0.heap.size W0 wr ∧ wr.ownsRow W1.heap.size 36 3 (.slice A L.length d) L.length (L.flatMap encT) ∧ (∀ j, Value.ownBlock (.slice B (i + 2) c) = some j → Value.ownBlock (.slice A L.length d) ≠ some j)) (fun _ u _ => L.length - (intOf u).toNat)
  case atStart =>
    refine ⟨0, _, _, Nat.zero_le _, rfl, rfl, by rw [S0.out]; exact HR2.out, h02, HS.out, fun j hj e => ?_⟩
    simp only [Value.ownBlock, Option.some.injEq] at hj
    have := (HS.out.lt j e).1
    omega
  case round =>
    obtain ⟨i, B, c, hi, rfl, rfl, hown, hbr, hsl, hne⟩ := hrel
    have HOWN := Lib.hid hown
    have HSL := Lib.hid hsl
    have HNE := Lib.hid hne
    clear hown hsl HR2 HS hne
    by_cases hlt : i < L.length
    · obtain ⟨g, rfl, hg, r0, r1, r2⟩ := tri_own HSL.out hlt
      have STI := Lib.hid (STK.out i hlt)
      have HR3 := Lib.hid (fun (W : World) (h : W.ownsRow W1.heap.size 36 3 (.slice (some ⟨g, 0, none⟩) L.length d) L.length (L.flatMap encT)) => show W.cell? ⟨g, i * 3 + 1, none⟩ = some (.int .i64 L[i].2.1) from by
        obtain ⟨g', e', _, _, h1, _⟩ := tri_own h hlt
        injection e' with e'; injection e' with e'; subst e'
        exact h1)
      clear r0 r2
      generalize L[i] = li at *
      obtain ⟨l0, l1, l2⟩ := li
      dsimp only at r1 STI HR3
      have SH := Lib.hid (fun (W' : World) (h : W'.cell? ⟨g, i * 3 + 1, none⟩ = some (.int .i64 l1)) => h)
      go_wp2_with fail
      refine wp_region_held_drew (S := fun W' => W'.cell? ⟨g, i * 3 + 1, none⟩ = some (.int .i64 l1)) (by kernel_rfl) (SH.out _ (r1)) (fun hHeld => ?_)
      refine anyH_take (i := 0) (v := ?_) (some 17) rfl rfl (by kernel_rfl) (by kernel_rfl) (by kernel_rfl) (fun _ _ _ h => h) (by rfl) (by assumption) ?_ ?_
      rotate_left
      · intro w hSw; (try dsimp only at hSw); go_split_ands; go_simp; try (with_reducible rfl)
      try simp only [Act.put, List.setIfInBounds_toArray, List.set_cons_zero, List.set_cons_succ]
      refine anyH_take (i := 1) (v := ?_) (some 18) rfl rfl (by kernel_rfl) (by kernel_rfl) (by kernel_rfl) (fun _ _ _ h => h) (by rfl) (by assumption) ?_ ?_
      rotate_left
      · intro w hSw; (try dsimp only at hSw); go_split_ands; go_simp; try (with_reducible rfl)
      try simp only [Act.put, List.setIfInBounds_toArray, List.set_cons_zero, List.set_cons_succ]
      refine anyH_take (i := 2) (v := ?_) (some 19) rfl rfl (by kernel_rfl) (by kernel_rfl) (by kernel_rfl) (fun _ _ _ h => h) (by rfl) (by assumption) ?_ ?_
      rotate_left
      · intro w hSw; (try dsimp only at hSw); go_split_ands; go_simp; try (with_reducible rfl)
      try simp only [Act.put, List.setIfInBounds_toArray, List.set_cons_zero, List.set_cons_succ]
      refine anyH_take (i := 3) (v := ?_) (some 20) rfl rfl (by kernel_rfl) (by kernel_rfl) (by kernel_rfl) (fun _ _ _ h => h) (by rfl) (by assumption) ?_ ?_
      rotate_left
      · intro w hSw; (try dsimp only at hSw); go_split_ands; go_simp; try (with_reducible rfl)
      try simp only [Act.put, List.setIfInBounds_toArray, List.set_cons_zero, List.set_cons_succ]
      refine anyH_take (i := 4) (v := ?_) (some 21) rfl rfl (by kernel_rfl) (by kernel_rfl) (by kernel_rfl) (fun _ _ _ h => h) (by rfl) (by assumption) ?_ ?_
      rotate_left
      · intro w hSw; (try dsimp only at hSw); go_split_ands; go_simp; try (with_reducible rfl)
      try simp only [Act.put, List.setIfInBounds_toArray, List.set_cons_zero, List.set_cons_succ]
      refine anyH_take (i := 5) (v := ?_) (some 22) rfl rfl (by kernel_rfl) (by kernel_rfl) (by kernel_rfl) (fun _ _ _ h => h) (by rfl) (by assumption) ?_ ?_
      rotate_left
      · intro w hSw; (try dsimp only at hSw); go_split_ands; go_simp; try (with_reducible rfl)
      try simp only [Act.put, List.setIfInBounds_toArray, List.set_cons_zero, List.set_cons_succ]
      refine anyH_take (i := 6) (v := ?_) (some 23) rfl rfl (by kernel_rfl) (by kernel_rfl) (by kernel_rfl) (fun _ _ _ h => h) (by rfl) (by assumption) ?_ ?_
      rotate_left
      · intro w hSw; (try dsimp only at hSw); go_split_ands; go_simp; try (with_reducible rfl)
      try simp only [Act.put, List.setIfInBounds_toArray, List.set_cons_zero, List.set_cons_succ]
      refine anyH_take (i := 7) (v := ?_) (some 24) rfl rfl (by kernel_rfl) (by kernel_rfl) (by kernel_rfl) (fun _ _ _ h => h) (by rfl) (by assumption) ?_ ?_
      rotate_left
      · intro w hSw; (try dsimp only at hSw); go_split_ands; go_simp; try (with_reducible rfl)
      try simp only [Act.put, List.setIfInBounds_toArray, List.set_cons_zero, List.set_cons_succ]
      refine anyH_take (i := 8) (v := ?_) (some 25) rfl rfl (by kernel_rfl) (by kernel_rfl) (by kernel_rfl) (fun _ _ _ h => h) (by rfl) (by assumption) ?_ ?_
      rotate_left
      · intro w hSw; (try dsimp only at hSw); go_split_ands; go_simp; try (with_reducible rfl)
      try simp only [Act.put, List.setIfInBounds_toArray, List.set_cons_zero, List.set_cons_succ]
      refine anyH_take (i := 9) (v := ?_) (some 26) rfl rfl (by kernel_rfl) (by kernel_rfl) (by kernel_rfl) (fun _ _ _ h => h) (by rfl) (by assumption) ?_ ?_
      rotate_left
      · intro w hSw; (try dsimp only at hSw); go_split_ands; go_simp; try (with_reducible rfl)
      try simp only [Act.put, List.setIfInBounds_toArray, List.set_cons_zero, List.set_cons_succ]
      refine anyH_take (i := 10) (v := ?_) (some 27) rfl rfl (by kernel_rfl) (by kernel_rfl) (by kernel_rfl) (fun _ _ _ h => h) (by rfl) (by assumption) ?_ ?_
      rotate_left
      · intro w hSw; (try dsimp only at hSw); go_split_ands; go_simp; try (with_reducible rfl)
      try simp only [Act.put, List.setIfInBounds_toArray, List.set_cons_zero, List.set_cons_succ]
      refine anyH_take (i := 11) (v := ?_) (some 28) rfl rfl (by kernel_rfl) (by kernel_rfl) (by kernel_rfl) (fun _ _ _ h => h) (by rfl) (by assumption) ?_ ?_
      rotate_left
      · intro w hSw; (try dsimp only at hSw); go_split_ands; go_simp; try (with_reducible rfl)
      try simp only [Act.put, List.setIfInBounds_toArray, List.set_cons_zero, List.set_cons_succ]
      have hbd : Below wr.heap.size wr (wr.drew.alloc (.cells #[.int .i64 l1, .int .i64 l1] 69)) := ((Below.refl _ _).drew).alloc (Nat.le_refl _) _
      have HO1 := Lib.hid (own_keep HOWN.out hbd)
      have hsz1 : W0.heap.size ≤ (wr.drew.alloc (.cells #[.int .i64 l1, .int .i64 l1] 69)).heap.size := (hbr.trans (hbd.mono hbr.size)).size
      have HI1 := Lib.hid (Sl_new wr.drew [.int .i64 l1, .int .i64 l1] 69 rfl)
      have hb1r := hbr.trans (hbd.mono hbr.size)
      have HSL1 := Lib.hid (own_keep HSL.out hbd)
      refine anyH_val (w' := wr.drew.alloc (.cells #[.int .i64 l1, .int .i64 l1] 69)) (v := .slice (some ⟨wr.drew.heap.size, 0, none⟩) 1 1) (i := 12) (some 29) rfl rfl (by kernel_rfl) (by rfl) (by go_simp) (HR3.out _ HSL1.out) ?_
      try simp only [Act.put, List.setIfInBounds_toArray, List.set_cons_zero, List.set_cons_succ]
      obtain ⟨wd, hwd⟩ : ∃ wd, wr.drew.alloc (.cells #[.int .i64 l1, .int .i64 l1] 69) = wd := ⟨_, rfl⟩
      rw [hwd] at hbd HO1 hsz1 HI1 hb1r HSL1 ⊢
      clear hwd hHeld
      refine anyH_app (i := 13) (some 30) rfl rfl (by kernel_rfl) (by rfl) _ _ 24 69 (.agg #[.int .i64 0, .int .i64 0]) 2 16 rfl Tryz.underlying24 info_rg rfl (by decide) (by decide) rfl HO1.out rfl HI1.out (by simp) (oneCell_ints [l1, l1]) (by omega) hsz1 ?_
      intro B3 c3 w3 hown3 hc3 hb3 hg3 hB3
      have HO3 := Lib.hid hown3
      have hbr3 := hb1r.trans (hb3.mono (Nat.le_refl _))
      have hAB : ∀ j, Value.ownBlock (.slice B (i + 2) c) = some j → g ≠ j := fun j hj e => HNE.out j hj (by simp [Value.ownBlock, e])
      have HSL3 := Lib.hid (HSL1.out.kept hg3 (.inr (by
        intro e
        exact hAB g (by rw [← e]; rfl) rfl)))
      have hgl : g < wd.heap.size := (HSL1.out.lt g rfl).2
      have HNE3 := Lib.hid (show ∀ j, Value.ownBlock (.slice B3 (i + 2 + 1) c3) = some j → Value.ownBlock (.slice (some ⟨g, 0, none⟩) L.length d) ≠ some j from fun j hj e => by
        have e2 : g = j := by simpa [Value.ownBlock] using e
        rcases hB3 with h9 | h9 <;> rw [h9] at hj
        · refine hAB j ?_ e2
          cases B with
          | none => simp [Value.ownBlock] at hj
          | some q => simpa [Value.ownBlock] using hj
        · simp only [Value.ownBlock, Option.some.injEq] at hj
          omega)
      have S7 := HR3.out w3 HSL3.out
      refine ⟨S7, ?_⟩
      have hHeld := S7
      clear S7
      try simp only [Act.put, List.setIfInBounds_toArray, List.set_cons_zero, List.set_cons_succ]
      refine anyH_take (i := 14) (v := ?_) (some 3) rfl rfl (by kernel_rfl) (by kernel_rfl) (by kernel_rfl) (fun _ _ _ h => h) (by rfl) (by assumption) ?_ ?_
      rotate_left
      · intro w hSw; (try dsimp only at hSw); go_split_ands; go_simp; try (with_reducible rfl)
      try simp only [Act.put, List.setIfInBounds_toArray, List.set_cons_zero, List.set_cons_succ]
      refine wpAnyH_done (by kernel_rfl) ?_ _
      go_wp2_with fail
      go_roundw
      case rel => exact ⟨i + 1, B3, c3, by omega, by go_num, by rw [show i + 1 + 2 = i + 2 + 1 by omega], by rw [STI.out, flatK_append, show i + 1 + 2 = i + 2 + 1 by omega]; exact HO3.out, hbr3, HSL3.out, by rw [show i + 1 + 2 = i + 2 + 1 by omega]; exact HNE3.out⟩
      case measure => simp [intOf]; omega
    · obtain rfl : i = L.length := by omega
      rw [SE.out] at HOWN
      have HRG := Lib.hid (show Rgs wr B (secR L) from Sl.of_own HOWN.out)
      have MK := Lib.hid (refMake_any B (L.length + 2) c (secR L) wr HRG.out SLN.out (by omega))
      generalize hRR : canR (secR L) = R at *
      have HRR := Lib.hid hRR
      clear hRR
      go_wp2_with fail
      with_reducible refine MK.out.mono ?_
      rintro e W9 ⟨E, dd, rfl, hdd, hE, hb9⟩
      have hbr9 := hbr.trans (hb9.mono hbr.size)
      have Y9 := Y0.out.below hbr9 yl
      have c9 := Y9.cell (i := 0) rfl
      have f9 := Y9.free 0
      have HRW := Lib.hid (rgs_off (v' := .slice E R.length dd) hE Y9 (fun z => by simp))
      have hbf := (hB.trans (hbr9.mono hB.size)).setCell (p := ⟨w.heap.size + 1, 0, none⟩) (by simp) (.slice E R.length dd)
      clear hE MK HRG Y9
      go_wp2_with fail
      (try simp only [Exit.inBlock, Exit.then]); refine bodyPost_ret (results_set1 rfl _ _ (b := w.heap.size + 1) (v0 := .slice E R.length dd) rfl (by go_simp)) rfl ?_
      exact ⟨L, HPL.out, hll', by rw [HRR.out]; exact ⟨E, dd, rfl, hdd, HRW.out, hbf⟩⟩
end Go.Proofs.YtjglanjfgbipmaaGreatDoor
/- The contract of the law's has. -/
namespace Go.Proofs.YtjglanjfgbipmaaGreatDoor
open Go.RowKit

theorem mem_none {zs : List Int} {c : Int} (h : ∀ t, (ht : t < zs.length) → zs[t] ≠ c) : decide (c ∈ zs) = false := by
  rw [decide_eq_false_iff_not]
  intro hm
  obtain ⟨t, ht, e⟩ := List.mem_iff_getElem.1 hm
  exact h t ht e

set_option maxRecDepth 100000 in
set_option maxHeartbeats 3200000 in
theorem has_any (A : Option Addr) (n a : Nat) (zs : List Int) (c : Int) (w : World) (hA : Ints w A zs) (hn : zs.length = n) (hb : n ≤ 1048576) :
    Calls Tryz.prog 25 #[.slice A n a, .int .i64 c] w fun e w' => e = .returned (.bool (decide (c ∈ zs))) ∧ w = w' := by
  subst hn
  have H0 := Lib.hid (fun h => mem_none (zs := zs) (c := c) h)
  have H1 := Lib.hid (fun t (ht : t < zs.length) (e : zs[t] = c) => show decide (c ∈ zs) = true from decide_eq_true (by rw [← e]; exact List.getElem_mem ht))
  generalize decide (c ∈ zs) = R at *
  have HA := Lib.hid hA
  clear hA
  go_enter Tryz.func25, Tryz.ntmps25
  go_wp2_with fail
  go_loop [5] (fun u => ∃ i : Nat, i ≤ zs.length ∧ u = .int .i64 i ∧ (∀ t, (ht : t < zs.length) → t < i → zs[t] ≠ c)) (fun u => zs.length - (intOf u).toNat)
  case atStart => exact ⟨0, Nat.zero_le _, rfl, fun t _ h => by omega⟩
  case round =>
    obtain ⟨i, hi, rfl, hno⟩ := hrel
    have HNO := Lib.hid hno
    clear hno
    by_cases hlt : i < zs.length
    · obtain ⟨b1, o1, rfl, hcell⟩ := HA.out.at hlt
      have c1 := hcell i hlt
      have HY := Lib.hid (fun h => H1.out i hlt h)
      have HN := Lib.hid (fun h => all_up (P := fun r : Int => r ≠ c) hlt HNO.out h)
      clear hcell
      generalize zs[i] = zi at *
      by_cases he : zi = c
      · obtain rfl := HY.out he
        have q1 : (zi == c) = true := by simpa using he
        clear he
        go_wp2_with fail
        go_ret
        exact ⟨rfl, rfl⟩
      · have HQ := Lib.hid (HN.out he)
        have q1 : (zi == c) = false := by simpa using he
        clear he
        go_wp2_with fail
        go_round
        case rel => exact ⟨i + 1, by omega, by go_num, HQ.out⟩
        case measure => simp [intOf]; omega
    · obtain rfl := H0.out (fun t ht => HNO.out t ht (by omega))
      go_wp2_with fail
      go_ret
      exact ⟨rfl, rfl⟩
end Go.Proofs.YtjglanjfgbipmaaGreatDoor
/- The walk of the law ComposeTexts. Written by gen_lawa.py. -/
namespace Go.Proofs.YtjglanjfgbipmaaGreatDoor
open Go.RowKit Go.Maps Go.WideMaps

set_option maxRecDepth 100000 in
set_option maxHeartbeats 25600000 in
theorem ComposeTexts_any (A0 : Option Addr) (k0 : Nat) (A1 : Option Addr) (k1 : Nat) (A2 : Option Addr) (k2 : Nat) (x : Nrm) (A : Option Addr) (n a : Nat) (t : List Int) (w : World) (hN : NrmAt w A0 x.cls.length A1 x.dec.length A2 x.exc.length x) (hl : NrmLn x) (hA : Ints w A t) (hn : t.length = n) (hna : n ≤ a) (_haz : a ≤ 9223372036854775807) (hok : ∀ c ∈ t, iok c) (hL : Laid w) :
    Calls Tryz.prog 4 #[.agg #[.slice A0 x.cls.length k0, .slice A1 x.dec.length k1, .slice A2 x.exc.length k2], .slice A n a] w (RetTrue w) := by
  subst hn
  have HOK := Lib.hid hok
  clear hok
  have B0 : Below w.heap.size w (w.alloc (.cells #[.slice A0 x.cls.length k0, .slice A1 x.dec.length k1, .slice A2 x.exc.length k2] 28)) := (Below.refl _ _).alloc (Nat.le_refl _) _
  have X0 : Box (w.alloc (.cells #[.slice A0 x.cls.length k0, .slice A1 x.dec.length k1, .slice A2 x.exc.length k2] 28)) w.heap.size 28 [.slice A0 x.cls.length k0, .slice A1 x.dec.length k1, .slice A2 x.exc.length k2] := Box.new w 28 [.slice A0 x.cls.length k0, .slice A1 x.dec.length k1, .slice A2 x.exc.length k2] rfl
  have W0E : ∃ W0, (w.alloc (.cells #[.slice A0 x.cls.length k0, .slice A1 x.dec.length k1, .slice A2 x.exc.length k2] 28)) = W0 := ⟨_, rfl⟩
  have CA := Lib.hid (fun W (hb : Below w.heap.size w W) => hN.below hb)
  have HLd := Lib.hid (fun W (hb : Below w.heap.size w W) => hL.below hb)
  have HL := Lib.hid hl
  have SZ := Lib.hid (smallN_sz (x := x))
  have HA := Lib.hid (fun W (hb : Below w.heap.size w W) => hA.below hb)
  clear hN hL hl hA
  go_enter Tryz.func4, Tryz.ntmps4
  go_wp2_with fail
  obtain ⟨W0, hW0⟩ := W0E
  try rw [hW0] at B0 X0 ⊢
  clear hW0
  have SH := Lib.hid (fun W' (hb' : Below W0.heap.size W0 W') => show W'.cell? ⟨w.heap.size, 0, none⟩ = some (.slice A0 x.cls.length k0) ∧ W'.cell? ⟨w.heap.size, 1, none⟩ = some (.slice A1 x.dec.length k1) ∧ W'.cell? ⟨w.heap.size, 2, none⟩ = some (.slice A2 x.exc.length k2) ∧ Below W0.heap.size W0 W' from ⟨(X0.below hb' X0.lt).cell (i := 0) rfl, (X0.below hb' X0.lt).cell (i := 1) rfl, (X0.below hb' X0.lt).cell (i := 2) rfl, hb'⟩)
  have KM := Lib.hid (fun W (hb' : Below W0.heap.size W0 W) => smallN_any A0 _ k0 A1 _ k1 A2 _ k2 x W (CA.out W (B0.trans (hb'.mono B0.size))) HL.out.z0 HL.out.z1 HL.out.z2 HL.out.ze)
  have KA := Lib.hid (fun W (hb' : Below W0.heap.size W0 W) => awake_any W (HLd.out W (B0.trans (hb'.mono B0.size))))
  with_reducible refine (KM.out W0 (Below.refl _ _)).mono ?_
  rintro e W1 ⟨rfl, hb1⟩
  cases hs : smallN x with
  | false =>
    go_wp2_with fail
    with_reducible refine (KA.out W1 hb1).mono ?_
    rintro e W9 ⟨rfl, hb9⟩
    have hbn := B0.trans ((hb1).trans (hb9.mono (hb1).size) |>.mono B0.size)
    go_wp2_with fail
    go_ret
    exact ⟨rfl, hbn⟩
  | true =>
    have hz := SZ.out hs
    by_cases h60 : 60 < t.length
    · have d60 : decide ((60 : Int) < (t.length : Int)) = true := by simp; omega
      go_wp2_with fail
      with_reducible refine (KA.out W1 hb1).mono ?_
      rintro e W9 ⟨rfl, hb9⟩
      have hbn := B0.trans ((hb1).trans (hb9.mono (hb1).size) |>.mono B0.size)
      go_wp2_with fail
      go_ret
      exact ⟨rfl, hbn⟩
    · have d60 : decide ((60 : Int) < (t.length : Int)) = false := by simp; omega
      have KAH := Lib.hid (fun W (hb' : Below W0.heap.size W0 W) => (KA.out W hb').mono (R' := fun e W' => e = .returned (.bool true) ∧ (W'.cell? ⟨w.heap.size, 0, none⟩ = some (.slice A0 x.cls.length k0) ∧ W'.cell? ⟨w.heap.size, 1, none⟩ = some (.slice A1 x.dec.length k1) ∧ W'.cell? ⟨w.heap.size, 2, none⟩ = some (.slice A2 x.exc.length k2) ∧ Below W0.heap.size W0 W')) (fun e W' hh => ⟨hh.1, SH.out W' (hb'.trans (hh.2.mono hb'.size))⟩))
      have KC := Lib.hid (fun W (hb' : Below W0.heap.size W0 W) => (cpText_any A0 _ k0 A1 _ k1 A2 _ k2 x A t.length a t W (CA.out W (B0.trans (hb'.mono B0.size))) hz (HLd.out W (B0.trans (hb'.mono B0.size))) (HA.out W (B0.trans (hb'.mono B0.size))) rfl (by omega) HOK.out).mono (R' := fun e W' => ∃ v, e = .returned v ∧ (W'.cell? ⟨w.heap.size, 0, none⟩ = some (.slice A0 x.cls.length k0) ∧ W'.cell? ⟨w.heap.size, 1, none⟩ = some (.slice A1 x.dec.length k1) ∧ W'.cell? ⟨w.heap.size, 2, none⟩ = some (.slice A2 x.exc.length k2) ∧ Below W0.heap.size W0 W') ∧ (∃ E d, v = .slice E (Cps.text (clz (usN x).cls) (prN (usN x)) t).length d ∧ (Cps.text (clz (usN x).cls) (prN (usN x)) t).length ≤ d ∧ Ints W' E (Cps.text (clz (usN x).cls) (prN (usN x)) t) ∧ Below W.heap.size W W')) (fun e W' ⟨E, d, he, g1, g2, g3⟩ => ⟨_, he, SH.out W' (hb'.trans (g3.mono hb'.size)), E, d, rfl, g1, g2, g3⟩))
      have KR := Lib.hid (fun W (hb' : Below W0.heap.size W0 W) => (refCpText_any A0 _ k0 A1 _ k1 A2 _ k2 x A t.length a t W (CA.out W (B0.trans (hb'.mono B0.size))) hz (HA.out W (B0.trans (hb'.mono B0.size))) rfl (by omega)).mono (R' := fun e W' => ∃ v, e = .returned v ∧ (W'.cell? ⟨w.heap.size, 0, none⟩ = some (.slice A0 x.cls.length k0) ∧ W'.cell? ⟨w.heap.size, 1, none⟩ = some (.slice A1 x.dec.length k1) ∧ W'.cell? ⟨w.heap.size, 2, none⟩ = some (.slice A2 x.exc.length k2) ∧ Below W0.heap.size W0 W') ∧ (∃ E d, v = .slice E (Cps.text (clz (usN x).cls) (prN (usN x)) t).length d ∧ (Cps.text (clz (usN x).cls) (prN (usN x)) t).length ≤ d ∧ Ints W' E (Cps.text (clz (usN x).cls) (prN (usN x)) t) ∧ Below W.heap.size W W')) (fun e W' ⟨E, d, he, g1, g2, g3⟩ => ⟨_, he, SH.out W' (hb'.trans (g3.mono hb'.size)), E, d, rfl, g1, g2, g3⟩))
      have KEQ := Lib.hid (fun W E1 E2 (l : List Int) d1 d2 (hb' : Below W0.heap.size W0 W) (h1 : Ints W E1 l) (h2 : Ints W E2 l) (hz : l.length ≤ 100000) => (Equal_any E1 E2 l.length l.length d1 d2 l l W h1 h2 rfl rfl (by omega) (by omega)).mono (R' := fun e W' => e = .returned (.bool true) ∧ (W'.cell? ⟨w.heap.size, 0, none⟩ = some (.slice A0 x.cls.length k0) ∧ W'.cell? ⟨w.heap.size, 1, none⟩ = some (.slice A1 x.dec.length k1) ∧ W'.cell? ⟨w.heap.size, 2, none⟩ = some (.slice A2 x.exc.length k2) ∧ Below W0.heap.size W0 W')) (fun e W' hh => ⟨by rw [hh.1, decide_eq_true rfl], SH.out W' (hb'.trans (hh.2.below.mono hb'.size))⟩))
      have hlen := Cps.text_len (cl := clz (usN x).cls) (pr := prN (usN x)) t
      generalize Cps.text (clz (usN x).cls) (prN (usN x)) t = z at *
      have p0 := (X0.below hb1 X0.lt).cell (i := 0) rfl
      have p1 := (X0.below hb1 X0.lt).cell (i := 1) rfl
      have p2 := (X0.below hb1 X0.lt).cell (i := 2) rfl
      go_wp2_with fail
      refine wp_region_held_drew (S := fun W' => W'.cell? ⟨w.heap.size, 0, none⟩ = some (.slice A0 x.cls.length k0) ∧ W'.cell? ⟨w.heap.size, 1, none⟩ = some (.slice A1 x.dec.length k1) ∧ W'.cell? ⟨w.heap.size, 2, none⟩ = some (.slice A2 x.exc.length k2) ∧ Below W0.heap.size W0 W') (by kernel_rfl) (SH.out _ (hb1.drew)) (fun hHeld => ?_)
      refine anyH_take (i := 0) (v := ?_) (some 14) rfl rfl (by kernel_rfl) (by kernel_rfl) (by kernel_rfl) (fun _ _ _ h => h) (by rfl) (by assumption) ?_ ?_
      rotate_left
      · intro w hSw; (try dsimp only at hSw); go_split_ands; go_simp; try (with_reducible rfl)
      try simp only [Act.put, List.setIfInBounds_toArray, List.set_cons_zero, List.set_cons_succ]
      refine anyH_take (i := 1) (v := ?_) (some 15) rfl rfl (by kernel_rfl) (by kernel_rfl) (by kernel_rfl) (fun _ _ _ h => h) (by rfl) (by assumption) ?_ ?_
      rotate_left
      · intro w hSw; (try dsimp only at hSw); go_split_ands; go_simp; try (with_reducible rfl)
      try simp only [Act.put, List.setIfInBounds_toArray, List.set_cons_zero, List.set_cons_succ]
      refine anyH_take (i := 3) (v := ?_) (some 17) rfl rfl (by kernel_rfl) (by kernel_rfl) (by kernel_rfl) (fun _ _ _ h => h) (by rfl) (by assumption) ?_ ?_
      rotate_left
      · intro w hSw; (try dsimp only at hSw); go_split_ands; go_simp; try (with_reducible rfl)
      try simp only [Act.put, List.setIfInBounds_toArray, List.set_cons_zero, List.set_cons_succ]
      refine anyH_take (i := 4) (v := ?_) (some 18) rfl rfl (by kernel_rfl) (by kernel_rfl) (by kernel_rfl) (fun _ _ _ h => h) (by rfl) (by assumption) ?_ ?_
      rotate_left
      · intro w hSw; (try dsimp only at hSw); go_split_ands; go_simp; try (with_reducible rfl)
      try simp only [Act.put, List.setIfInBounds_toArray, List.set_cons_zero, List.set_cons_succ]
      refine anyH_callE (i := 2) (some 16) rfl rfl (by kernel_rfl) (by rfl) (by go_simp) (KC.out _ hHeld.2.2.2) ?_
      rintro _ W2 hS6 ⟨E1, q1, rfl, hl1, hI1, hbe1⟩
      clear hHeld
      have hHeld := hS6
      clear hS6
      try simp only [Act.put, List.setIfInBounds_toArray, List.set_cons_zero, List.set_cons_succ]
      refine anyH_callE (i := 5) (some 19) rfl rfl (by kernel_rfl) (by rfl) (by go_simp) (KR.out _ hHeld.2.2.2) ?_
      rintro _ W3 hS6 ⟨E2, q2, rfl, hl2, hI2, hbe2⟩
      clear hHeld
      have hHeld := hS6
      clear hS6
      try simp only [Act.put, List.setIfInBounds_toArray, List.set_cons_zero, List.set_cons_succ]
      have hI1 := hI1.below hbe2
      refine anyH_call (i := 6) (some 20) rfl rfl (by kernel_rfl) (by rfl) (by go_simp) (KEQ.out _ E1 E2 z q1 q2 hHeld.2.2.2 hI1 hI2 (by omega)) (fun W4 hS6 => ?_)
      clear hHeld
      have hHeld := hS6
      clear hS6
      try simp only [Act.put, List.setIfInBounds_toArray, List.set_cons_zero, List.set_cons_succ]
      refine anyH_take (i := 7) (v := ?_) (some 21) rfl rfl (by kernel_rfl) (by kernel_rfl) (by kernel_rfl) (fun _ _ _ h => h) (by rfl) (by assumption) ?_ ?_
      rotate_left
      · intro w hSw; (try dsimp only at hSw); go_split_ands; go_simp; try (with_reducible rfl)
      try simp only [Act.put, List.setIfInBounds_toArray, List.set_cons_zero, List.set_cons_succ]
      refine anyH_call (i := 8) (some 22) rfl rfl (by kernel_rfl) (by rfl) (by go_simp) (KAH.out _ hHeld.2.2.2) (fun W5 hS6 => ?_)
      clear hHeld
      have hHeld := hS6
      clear hS6
      try simp only [Act.put, List.setIfInBounds_toArray, List.set_cons_zero, List.set_cons_succ]
      refine anyH_take (i := 9) (v := ?_) (some 23) rfl rfl (by kernel_rfl) (by kernel_rfl) (by kernel_rfl) (fun _ _ _ h => h) (by rfl) (by assumption) ?_ ?_
      rotate_left
      · intro w hSw; (try dsimp only at hSw); go_split_ands; go_simp; try (with_reducible rfl)
      try simp only [Act.put, List.setIfInBounds_toArray, List.set_cons_zero, List.set_cons_succ]
      refine anyH_take (i := 10) (v := ?_) (some 4) rfl rfl (by kernel_rfl) (by kernel_rfl) (by kernel_rfl) (fun _ _ _ h => h) (by rfl) (by assumption) ?_ ?_
      rotate_left
      · intro w hSw; (try dsimp only at hSw); go_split_ands; go_simp; try (with_reducible rfl)
      try simp only [Act.put, List.setIfInBounds_toArray, List.set_cons_zero, List.set_cons_succ]
      refine wpAnyH_done (by kernel_rfl) ?_ _
      have hbn := B0.trans (hHeld.2.2.2.mono B0.size)
      clear hHeld SH KM KA KAH KC KR KEQ
      go_wp2_with fail
      go_ret
      exact ⟨rfl, hbn⟩

end Go.Proofs.YtjglanjfgbipmaaGreatDoor
