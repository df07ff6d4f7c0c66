/- Contracts of the library's sort at ranges, few of them, as cpset.Make calls it. Adapted by gen_seta.py from the texts of chapter 47. -/
import Derived.Test.YtpamkbbmbeeheaaMapA
import Derived.Test.YtpamkbbmbeeheaaSortPlain
import Derived.Test.YtpamkbbmbeeheaaQuiet
import Derived.RegionTactic
import Derived.BigRegion
import Derived.StillTailTactics
import Derived.Deep.RegionWith
import Derived.Outline
import Derived.IntWalk
namespace Go.Proofs.Ytpamkbbmbeeheaa
open Go.RowKit Go.Maps Go.WideMaps

/-- a range of code points, not empty -/
def clipOk (r : Rg) : Prop := 0 ≤ r.lo ∧ r.lo ≤ r.hi ∧ r.hi ≤ 1114111
/-- the order of such ranges -/
def rkey (r : Rg) : Int := r.lo * 2097152 + r.hi
def rv (x : Rg) : Value := .agg #[.int .i64 x.lo, .int .i64 x.hi]
/-- a comparison: an int is returned that is negative just where p holds; nothing that was there has changed -/
def RetCmp (p : Prop) (w : World) (x : Ending) (w' : World) : Prop := ∃ c : Int, x = .returned (.int .i64 c) ∧ (c < 0 ↔ p) ∧ Below w.heap.size w w'
theorem rkey_cmp {a b : Rg} (ha : clipOk a) (hb : clipOk b) : orI (cmpI a.lo b.lo) (cmpI a.hi b.hi) < 0 ↔ rkey a < rkey b := by
  unfold orI cmpI rkey
  unfold clipOk at ha hb
  by_cases h1 : a.lo < b.lo
  · simp [h1]; omega
  · by_cases h2 : b.lo < a.lo
    · simp [h1, h2]; omega
    · by_cases h3 : a.hi < b.hi
      · simp [h1, h2, h3]; omega
      · by_cases h4 : b.hi < a.hi
        · simp [h1, h2, h3, h4]; omega
        · simp [h1, h2, h3, h4]; omega

set_option maxRecDepth 100000 in
set_option maxHeartbeats 3200000 in
theorem mkCmp_any (a b : Rg) (ha : clipOk a) (hb : clipOk b) (w : World) :
    Calls Try.prog 75 #[rv a, rv b] w (RetCmp (rkey a < rkey b) w) := by
  have B0 : Below w.heap.size w ((w.alloc (.cells #[.int .i64 a.lo, .int .i64 a.hi] 48)).alloc (.cells #[.int .i64 b.lo, .int .i64 b.hi] 48)) := ((Below.refl _ _).alloc (Nat.le_refl _) _).alloc (by simp) _
  have s0 : ((w.alloc (.cells #[.int .i64 a.lo, .int .i64 a.hi] 48)).alloc (.cells #[.int .i64 b.lo, .int .i64 b.hi] 48)).heap.size = w.heap.size + 2 := by simp
  have hS0 : (fun W' : World => W'.cell? ⟨w.heap.size, 0, none⟩ = some (.int .i64 a.lo) ∧ W'.cell? ⟨w.heap.size, 1, none⟩ = some (.int .i64 a.hi) ∧ W'.cell? ⟨w.heap.size + 1, 0, none⟩ = some (.int .i64 b.lo) ∧ W'.cell? ⟨w.heap.size + 1, 1, none⟩ = some (.int .i64 b.hi)) ((w.alloc (.cells #[.int .i64 a.lo, .int .i64 a.hi] 48)).alloc (.cells #[.int .i64 b.lo, .int .i64 b.hi] 48)) := by refine ⟨?_, ?_, ?_, ?_⟩ <;> simp
  have W0E : ∃ W0, ((w.alloc (.cells #[.int .i64 a.lo, .int .i64 a.hi] 48)).alloc (.cells #[.int .i64 b.lo, .int .i64 b.hi] 48)) = W0 := ⟨_, rfl⟩
  have CM := Lib.hid (rkey_cmp ha hb)
  generalize (rkey a < rkey b) = R at *
  unfold rv
  obtain ⟨al, ah⟩ := a
  obtain ⟨bl', bh⟩ := b
  dsimp only at *
  clear ha hb
  go_enter Try.func75, Try.ntmps75
  go_wp2_with fail
  obtain ⟨W0, hW0⟩ := W0E
  rw [hW0] at B0 s0 hS0 ⊢
  clear hW0
  have hx0 : w.heap.size < W0.heap.size := by omega
  have hx1 : w.heap.size + 1 < W0.heap.size := by omega
  refine wp_region_held_drew (S := fun W' => W'.cell? ⟨w.heap.size, 0, none⟩ = some (.int .i64 al) ∧ W'.cell? ⟨w.heap.size, 1, none⟩ = some (.int .i64 ah) ∧ W'.cell? ⟨w.heap.size + 1, 0, none⟩ = some (.int .i64 bl') ∧ W'.cell? ⟨w.heap.size + 1, 1, none⟩ = some (.int .i64 bh)) (by kernel_rfl) hS0 (fun hHeld => ?_)
  refine anyH_take (i := 0) (v := ?_) (some 5) rfl rfl (by kernel_rfl) (by kernel_rfl) (by kernel_rfl) (fun _ _ _ h => h) (by rfl) (by assumption) ?_ ?_
  rotate_left
  · intro w hSw; (try dsimp only at hSw); go_split_ands; go_simp; try (with_reducible rfl)
  try simp only [Act.put, List.setIfInBounds_toArray, List.set_cons_zero, List.set_cons_succ]
  refine anyH_take (i := 1) (v := ?_) (some 6) rfl rfl (by kernel_rfl) (by kernel_rfl) (by kernel_rfl) (fun _ _ _ h => h) (by rfl) (by assumption) ?_ ?_
  rotate_left
  · intro w hSw; (try dsimp only at hSw); go_split_ands; go_simp; try (with_reducible rfl)
  try simp only [Act.put, List.setIfInBounds_toArray, List.set_cons_zero, List.set_cons_succ]
  refine anyH_take (i := 2) (v := ?_) (some 7) rfl rfl (by kernel_rfl) (by kernel_rfl) (by kernel_rfl) (fun _ _ _ h => h) (by rfl) (by assumption) ?_ ?_
  rotate_left
  · intro w hSw; (try dsimp only at hSw); go_split_ands; go_simp; try (with_reducible rfl)
  try simp only [Act.put, List.setIfInBounds_toArray, List.set_cons_zero, List.set_cons_succ]
  refine anyH_take (i := 3) (v := ?_) (some 8) rfl rfl (by kernel_rfl) (by kernel_rfl) (by kernel_rfl) (fun _ _ _ h => h) (by rfl) (by assumption) ?_ ?_
  rotate_left
  · intro w hSw; (try dsimp only at hSw); go_split_ands; go_simp; try (with_reducible rfl)
  try simp only [Act.put, List.setIfInBounds_toArray, List.set_cons_zero, List.set_cons_succ]
  refine anyH_take (i := 5) (v := ?_) (some 10) rfl rfl (by kernel_rfl) (by kernel_rfl) (by kernel_rfl) (fun _ _ _ h => h) (by rfl) (by assumption) ?_ ?_
  rotate_left
  · intro w hSw; (try dsimp only at hSw); go_split_ands; go_simp; try (with_reducible rfl)
  try simp only [Act.put, List.setIfInBounds_toArray, List.set_cons_zero, List.set_cons_succ]
  refine anyH_take (i := 6) (v := ?_) (some 11) rfl rfl (by kernel_rfl) (by kernel_rfl) (by kernel_rfl) (fun _ _ _ h => h) (by rfl) (by assumption) ?_ ?_
  rotate_left
  · intro w hSw; (try dsimp only at hSw); go_split_ands; go_simp; try (with_reducible rfl)
  try simp only [Act.put, List.setIfInBounds_toArray, List.set_cons_zero, List.set_cons_succ]
  refine anyH_take (i := 7) (v := ?_) (some 12) rfl rfl (by kernel_rfl) (by kernel_rfl) (by kernel_rfl) (fun _ _ _ h => h) (by rfl) (by assumption) ?_ ?_
  rotate_left
  · intro w hSw; (try dsimp only at hSw); go_split_ands; go_simp; try (with_reducible rfl)
  try simp only [Act.put, List.setIfInBounds_toArray, List.set_cons_zero, List.set_cons_succ]
  refine anyH_take (i := 8) (v := ?_) (some 13) rfl rfl (by kernel_rfl) (by kernel_rfl) (by kernel_rfl) (fun _ _ _ h => h) (by rfl) (by assumption) ?_ ?_
  rotate_left
  · intro w hSw; (try dsimp only at hSw); go_split_ands; go_simp; try (with_reducible rfl)
  try simp only [Act.put, List.setIfInBounds_toArray, List.set_cons_zero, List.set_cons_succ]
  refine anyH_callR (R := fun W' => W0.drew = W') (i := 4) (some 9) rfl rfl (by kernel_rfl) (by rfl) (by go_simp) ((cmpCompare_any al bl' W0.drew).mono (R' := fun e w' => e = .returned (.int .i64 (cmpI al bl')) ∧ _ ∧ W0.drew = w') (fun e w' ⟨he, hw⟩ => ⟨he, by subst hw; exact hHeld, hw⟩)) (fun w6 hS6 hR6 => ?_)
  subst hR6
  clear hS6
  try simp only [Act.put, List.setIfInBounds_toArray, List.set_cons_zero, List.set_cons_succ]
  refine anyH_callR (R := fun W' => W0.drew = W') (i := 9) (some 14) rfl rfl (by kernel_rfl) (by rfl) (by go_simp) ((cmpCompare_any ah bh W0.drew).mono (R' := fun e w' => e = .returned (.int .i64 (cmpI ah bh)) ∧ _ ∧ W0.drew = w') (fun e w' ⟨he, hw⟩ => ⟨he, by subst hw; exact hHeld, hw⟩)) (fun w6 hS6 hR6 => ?_)
  subst hR6
  clear hS6
  try simp only [Act.put, List.setIfInBounds_toArray, List.set_cons_zero, List.set_cons_succ]
  generalize cmpI al bl' = x at *
  generalize cmpI ah bh = y at *
  have B1 : Below W0.heap.size W0 (W0.drew.alloc (.cells #[.int .i64 x, .int .i64 y] 3)) := ((Below.refl _ _).drew).alloc (Nat.le_refl _) _
  have hS1 : (fun W' : World => W'.cell? ⟨w.heap.size, 0, none⟩ = some (.int .i64 al) ∧ W'.cell? ⟨w.heap.size, 1, none⟩ = some (.int .i64 ah) ∧ W'.cell? ⟨w.heap.size + 1, 0, none⟩ = some (.int .i64 bl') ∧ W'.cell? ⟨w.heap.size + 1, 1, none⟩ = some (.int .i64 bh)) (W0.drew.alloc (.cells #[.int .i64 x, .int .i64 y] 3)) := ⟨(B1.cell (p := ⟨w.heap.size, 0, none⟩) hx0).trans hHeld.1, (B1.cell (p := ⟨w.heap.size, 1, none⟩) hx0).trans hHeld.2.1, (B1.cell (p := ⟨w.heap.size + 1, 0, none⟩) hx1).trans hHeld.2.2.1, (B1.cell (p := ⟨w.heap.size + 1, 1, none⟩) hx1).trans hHeld.2.2.2⟩
  have I1 := Ints_new W0.drew [x, y] 3 rfl
  refine anyH_val (w' := W0.drew.alloc (.cells #[.int .i64 x, .int .i64 y] 3)) (v := .slice (some ⟨W0.drew.heap.size, 0, none⟩) 2 2) (i := 10) (some 15) rfl rfl (by kernel_rfl) (by rfl) (by go_simp) hS1 ?_
  try simp only [Act.put, List.setIfInBounds_toArray, List.set_cons_zero, List.set_cons_succ]
  refine anyH_callR (R := fun W' => W0.drew.alloc (.cells #[.int .i64 x, .int .i64 y] 3) = W') (i := 11) (some 16) rfl rfl (by kernel_rfl) (by rfl) (by go_simp) ((or2_any _ 2 x y _ I1).mono (R' := fun e w' => e = .returned (.int .i64 (orI x y)) ∧ _ ∧ W0.drew.alloc (.cells #[.int .i64 x, .int .i64 y] 3) = w') (fun e w' ⟨he, hw⟩ => ⟨he, by subst hw; exact hS1, hw⟩)) (fun w6 hS6 hR6 => ?_)
  subst hR6
  try simp only [Act.put, List.setIfInBounds_toArray, List.set_cons_zero, List.set_cons_succ]
  refine anyH_take (i := 12) (v := ?_) (some 4) rfl rfl (by kernel_rfl) (by kernel_rfl) (by kernel_rfl) (fun _ _ _ h => h) (by rfl) (by assumption) ?_ ?_
  rotate_left
  · intro w hSw; (try dsimp only at hSw); go_split_ands; go_simp; try (with_reducible rfl)
  try simp only [Act.put, List.setIfInBounds_toArray, List.set_cons_zero, List.set_cons_succ]
  refine wpAnyH_done (by kernel_rfl) ?_ _
  go_wp2_with fail
  go_ret
  exact ⟨_, rfl, CM.out, B0.trans (B1.mono B0.size)⟩

/-- a row of ranges that the call owns -/
def RRow (w : World) (base g n c : Nat) (d : List Rg) : Prop := w.ownsRow base 48 2 (.slice (some ⟨g, 0, none⟩) n c) n (flatK Rg.cells d)
section
variable {w w' : World} {base g n c : Nat} {d : List Rg}
theorem RRow.len (h : RRow w base g n c d) : d.length = n := by
  have := h.1
  rw [flatK_len Rg.cells 2 (fun _ => rfl)] at this
  omega
theorem RRow.cells (h : RRow w base g n c d) {i : Nat} {x : Rg} (hi : d[i]? = some x) : w.cell? ⟨g, i * 2, none⟩ = some (.int .i64 x.lo) ∧ w.cell? ⟨g, i * 2 + 1, none⟩ = some (.int .i64 x.hi) := by
  obtain ⟨hl, rfl⟩ := List.getElem?_eq_some_iff.1 hi
  have hn := h.len
  have key : ∀ j u, (Rg.cells d[i])[j]? = some u → j < 2 → w.cell? ⟨g, i * 2 + j, none⟩ = some u := by
    intro j u hu hj
    rw [World.ownsRow.cellAt h (i * 2 + j) (by omega), flatK_get Rg.cells 2 (fun _ => rfl) d i j hl hj]
    exact hu
  exact ⟨key 0 _ rfl (by omega), key 1 _ rfl (by omega)⟩
theorem RRow.frozen (h : RRow w base g n c d) (i : Nat) : w.frozen? ⟨g, i, none⟩ = false := World.ownsRow.frozenAt h i
theorem RRow.keep (h : RRow w base g n c d) (hb : Below w.heap.size w w') : RRow w' base g n c d := own_keep h hb
theorem RRow.drew (h : RRow w base g n c d) : RRow w.drew base g n c d := h
theorem RRow.drewN (h : RRow w base g n c d) (k : Nat) : RRow (w.drewN k) base g n c d := h
end
theorem flatR_set (d : List Rg) (i : Nat) (x : Rg) (hi : i < d.length) : ((flatK Rg.cells d).set (i * 2) (.int .i64 x.lo)).set (i * 2 + 1) (.int .i64 x.hi) = flatK Rg.cells (d.set i x) := by
  induction d generalizing i with
  | nil => simp at hi
  | cons y r ih =>
    cases i with
    | zero => simp [flatK, Rg.cells]
    | succ i =>
      have h1 := ih i (by simpa using hi)
      simp only [flatK, List.flatMap_cons, Rg.cells, List.cons_append, List.nil_append, List.set_cons_succ] at *
      rw [show (i + 1) * 2 = i * 2 + 1 + 1 by omega]
      simp only [List.set_cons_succ, h1]
theorem RRow.set {w : World} {base g n c : Nat} {d : List Rg} (h : RRow w base g n c d) {i : Nat} (hi : i < d.length) (x : Rg) :
    RRow ((w.setCell ⟨g, i * 2, none⟩ (.int .i64 x.lo)).setCell ⟨g, i * 2 + 1, none⟩ (.int .i64 x.hi)) base g n c (d.set i x) ∧
    w.grownBy ((w.setCell ⟨g, i * 2, none⟩ (.int .i64 x.lo)).setCell ⟨g, i * 2 + 1, none⟩ (.int .i64 x.hi)) (some g) := by
  have s1 := World.ownsRow.stored h (i * 2) (.int .i64 x.lo)
  have s2 := s1.1.stored (i * 2 + 1) (.int .i64 x.hi)
  refine ⟨?_, ?_⟩
  · have h3 := s2.1
    rw [flatR_set d i x hi] at h3
    exact h3
  · exact ⟨rfl, rfl, rfl, by simp, fun k hk hne => (s2.2.block k (by simpa using hk) hne).trans (s1.2.block k hk hne)⟩
theorem grown_trans {a w c : World} {r : Option Nat} (h : a.grownBy w r) (g : w.grownBy c r) : a.grownBy c r :=
  ⟨g.os.trans h.os, g.tape.trans h.tape, g.output.trans h.output, Nat.le_trans h.size g.size, fun k hk hne => (g.block k (Nat.lt_of_lt_of_le hk h.size) hne).trans (h.block k hk hne)⟩
theorem grown_refl (w : World) (r : Option Nat) : w.grownBy w r := ⟨rfl, rfl, rfl, Nat.le_refl _, fun _ _ _ => rfl⟩
theorem grown_below {a w w' : World} {r : Option Nat} (h : a.grownBy w r) (g : Below w.heap.size w w') : a.grownBy w' r :=
  grown_trans h ⟨g.os, g.tape, g.output, g.size, fun k hk _ => g.block k hk⟩
theorem grown_drew {a w : World} {r : Option Nat} (h : a.grownBy w r) : a.grownBy w.drew r := grown_below h (below_of_drewN w 1)
theorem grown_drewN {a w : World} {r : Option Nat} (h : a.grownBy w r) (n : Nat) : a.grownBy (w.drewN n) r := grown_below h (below_of_drewN w n)

/-- nothing is returned; the row's ranges have become d' as R says; nothing else that was there has changed -/
def RetR (R : List Rg → Prop) (base g n c : Nat) (w : World) (x : Ending) (w' : World) : Prop := x = .returned (.tuple #[]) ∧ ∃ d', R d' ∧ RRow w' base g n c d' ∧ w.grownBy w' (some g)
theorem St_memR {key : Rg → Int} {d d' : List Rg} (h : Srt.St key d d') {x : Rg} (hx : x ∈ d') : x ∈ d := by
  have h1 : x ∈ d'.filter (fun y => key y == key x) := List.mem_filter.2 ⟨hx, by simp⟩
  rw [h (key x)] at h1
  exact (List.mem_filter.1 h1).1
theorem St_memR' {key : Rg → Int} {d d' : List Rg} (h : Srt.St key d d') {x : Rg} (hx : x ∈ d) : x ∈ d' := by
  have h1 : x ∈ d.filter (fun y => key y == key x) := List.mem_filter.2 ⟨hx, by simp⟩
  rw [← h (key x)] at h1
  exact (List.mem_filter.1 h1).1
theorem get_of_ltR {d : List Rg} {i : Nat} (h : i < d.length) : ∃ x, d[i]? = some x := ⟨d[i], List.getElem?_eq_getElem h⟩

set_option maxRecDepth 100000 in
set_option maxHeartbeats 3200000 in
theorem insertR_any (base g n c q : Nat) (d : List Rg) (w : World) (hR : RRow w base g n c d) (hq : q ≤ n) (hbig : n ≤ 1048576) (hok : ∀ x ∈ d, clipOk x) :
    Calls Try.prog 88 #[.slice (some ⟨g, 0, none⟩) n c, .int .i64 0, .int .i64 q, .func (.func 75) #[] #[]] w
      (RetR (fun d' => Srt.Done rkey d d' 0 q) base g n c w) := by
  have hn := hR.len
  subst hn
  have HOK := Lib.hid hok; clear hok
  go_enter Try.func88, Try.ntmps88
  go_wp2
  go_loopw [8] (fun i wr => ∃ (k : Nat) (d1 : List Rg), 1 ≤ k ∧ (k ≤ q ∨ k = 1) ∧ i = .int .i64 k ∧ Srt.Same d d1 0 q ∧ Srt.St rkey d d1 ∧ Srt.SortedOn rkey d1 0 k ∧ RRow wr base g d.length c d1 ∧ w.grownBy wr (some g)) (fun i _ => q - (intOf i).toNat)
  case atStart => exact ⟨1, d, Nat.le_refl _, .inr rfl, rfl, Srt.Same.refl _ _ _, Srt.St.refl _, Srt.SortedOn.short (by omega), hR, grown_refl _ _⟩
  case round =>
    obtain ⟨k, d1, hk1, hk2, rfl, hsame, hst, hso, hR1, hg⟩ := hrel
    have HA := Lib.hid hsame; have HT := Lib.hid hst; have HO := Lib.hid hso
    clear hsame hst hso
    by_cases hlt : k < q
    · obtain ⟨wo, rfl⟩ : ∃ wo : World, wo = wr := ⟨_, rfl⟩
      go_wp2
      go_loopw [9] (fun i wr => ∃ (j : Nat) (d2 : List Rg), j ≤ k ∧ i = .int .i64 j ∧ Srt.Same d d2 0 q ∧ Srt.St rkey d d2 ∧ Srt.Ins rkey d2 0 k j ∧ RRow wr base g d.length c d2 ∧ w.grownBy wr (some g)) (fun i _ => (intOf i).toNat)
      case atStart => exact ⟨k, d1, Nat.le_refl _, rfl, HA.out, HT.out, Srt.Ins.start HO.out, hR1, hg⟩
      case round =>
        obtain ⟨j, d2, hj2, rfl, hsame, hst, hins, hR2, hg2⟩ := hrel
        have HA2 := Lib.hid hsame; have HT2 := Lib.hid hst; have HI := Lib.hid hins
        clear hsame hst hins
        by_cases hpj : 0 < j
        · have hjn : j < d.length := by omega
          obtain ⟨x, hx⟩ := get_of_ltR (d := d2) (i := j - 1) (by rw [HA2.out.1]; omega)
          obtain ⟨y, hy⟩ := get_of_ltR (d := d2) (i := j) (by rw [HA2.out.1]; omega)
          obtain ⟨x1, x2⟩ := hR2.cells hx
          obtain ⟨y1, y2⟩ := hR2.cells hy
          have HX := Lib.hid hx; have HY := Lib.hid hy
          have C := Lib.hid (fun W => mkCmp_any y x (HOK.out y (St_memR HT2.out (List.mem_of_getElem? hy))) (HOK.out x (St_memR HT2.out (List.mem_of_getElem? hx))) W)
          clear hx hy
          have i0 : decide ((0 : Int) < (j : Int)) = true := by simp; omega
          have i1 : IntKind.i64.wrap ((j : Int) - 1) = (j : Int) - 1 := IntWalk.i64_in _ (by omega)
          have i2 : (0 : Int) ≤ (j : Int) - 1 := by omega
          have i2' : (1 : Int) ≤ (j : Int) := by omega
          have i2'' : 1 ≤ j := by omega
          have i3 : ((j : Int) - 1).toNat = j - 1 := by omega
          have i4 : (j : Int) - 1 < (d.length : Int) := by omega
          have i5 : (j : Int) < (d.length : Int) := by omega
          unfold rv at C
          go_wp2
          refine wp_region_still_tail 14 (by kernel_rfl) (by kernel_rfl) ?_
          simp only [List.take_succ_cons, List.take_zero, List.drop_succ_cons, List.drop_zero]
          change wpStill _ _ wr.drew _ _ _
          repeat still_step
          refine wpStill_nil ?_
          change wpList _ _ _ _ _ wr.drew
          go_wp2_with fail
          refine (C.out _).mono ?_
          rintro e w3 ⟨cc, rfl, hcc, hb3⟩
          have hR3 := (hR2.drew).keep hb3
          have hg3 := grown_below (grown_drew hg2) hb3
          obtain ⟨x1', x2'⟩ := hR3.cells HX.out
          obtain ⟨y1', y2'⟩ := hR3.cells HY.out
          have fr := hR3.frozen
          clear hR2 hg2 hb3 x1 x2 y1 y2
          by_cases hkey : rkey y < rkey x
          · have hneg : cc < 0 := hcc.2 hkey
            have HKEY := Lib.hid hkey
            clear hcc hkey
            have hne : ¬ (j - 1 = j) := by omega
            have HR3 := Lib.hid hR3
            clear hR3
            go_wp2
            go_region
            go_wp2_with fail
            go_roundw
            case rel =>
              have st1 := HR3.out.set (i := j) (by rw [HA2.out.1]; omega) x
              have st2 := st1.1.set (i := j - 1) (by rw [List.length_set, HA2.out.1]; omega) y
              refine ⟨j - 1, Srt.swp d2 (j - 1) j x y, by omega, by go_num, HA2.out.trans (Srt.swp_same HX.out HY.out (by omega) (by omega) (by omega) (by omega) (by omega)), HT2.out.trans ?_, ?_, ?_, ?_⟩
              · have := Srt.swp_done (key := rkey) (d := d2) (j := j - 1) HX.out (by rw [show j - 1 + 1 = j by omega]; exact HY.out) HKEY.out
                rw [show j - 1 + 1 = j by omega] at this; exact this
              · have := Srt.Ins.step (key := rkey) (d := d2) (a := 0) (i := k) (j := j - 1) (x := x) (y := y) (by rw [show j - 1 + 1 = j by omega]; exact HI.out) (by omega) (by omega) HX.out (by rw [show j - 1 + 1 = j by omega]; exact HY.out) HKEY.out
                rw [show j - 1 + 1 = j by omega] at this; exact this
              · rw [Srt.swp, List.set_comm _ _ (by omega)]
                exact st2.1.drew
              · exact grown_drew (grown_trans hg3 (grown_trans st1.2 st2.2))
            case measure => simp [intOf]; omega
          · have hneg : ¬ cc < 0 := fun h => hkey (hcc.1 h)
            clear hcc
            go_wp2
            go_roundw
            case rel =>
              refine ⟨k + 1, d2, by omega, .inl (by omega), by go_num, HA2.out, HT2.out, HI.out.stop (by omega) hj2 (.inr ?_), hR3, hg3⟩
              rw [Srt.kf_some HX.out, Srt.kf_some HY.out]; omega
            case measure => simp [intOf]; omega
        · have i0 : decide ((0 : Int) < (j : Int)) = false := by simp; omega
          go_wp2
          go_quiet (fail)
          go_wp2
          go_roundw
          case rel => exact ⟨k + 1, d2, by omega, .inl (by omega), by go_num, HA2.out, HT2.out, HI.out.stop (by omega) hj2 (.inl (by omega)), hR2.drewN _, grown_drewN hg2 _⟩
          case measure => simp [intOf]; omega
    · go_wp2
      go_end0
      refine ⟨rfl, d1, ⟨HA.out, HT.out, ?_⟩, hR1, hg⟩
      by_cases hkq : q ≤ k
      · exact HO.out.sub (Nat.le_refl _) hkq
      · omega


set_option maxRecDepth 100000 in
theorem pdqR_any (base g n c : Nat) (z : Int) (d : List Rg) (w : World) (hR : RRow w base g n c d) (hbig : n ≤ 12) (hok : ∀ x ∈ d, clipOk x) :
    Calls Try.prog 84 #[.slice (some ⟨g, 0, none⟩) n c, .int .i64 0, .int .i64 n, .int .i64 z, .func (.func 75) #[] #[]] w
      (RetR (fun d' => Srt.Done rkey d d' 0 n) base g n c w) := by
  have C := Lib.hid (insertR_any base g n c n d w hR (Nat.le_refl _) (by omega) hok)
  clear hR hok
  have q1 : decide ((n : Int) ≤ 12) = true := by simp; omega
  have q2 : decide (n ≤ 12) = true := by simp; omega
  go_enter Try.func84, Try.ntmps84
  go_wp2_with fail
  refine wp_loop_rounds 1 ?_
  rw [rounds_succ]
  go_wp2_with fail
  refine C.out.mono ?_
  rintro e w1 ⟨rfl, d1, hD, hR1, hg1⟩
  have HD := Lib.hid (And.intro hD (And.intro hR1 hg1))
  clear hD hR1 hg1
  go_wp2_with fail
  go_end0
  exact ⟨rfl, d1, HD.out.1, HD.out.2.1, HD.out.2.2⟩

end Go.Proofs.Ytpamkbbmbeeheaa
