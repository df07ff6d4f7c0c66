/- Contracts of the library's stable sort at groups, few of them, under a comparison by keys. -/
import Derived.Test.YtnfnoefjgiojoaaCkColl
import Derived.Test.YtnfnoefjgiojoaaSortPlain
import Derived.RegionTactic
import Derived.BigRegion
import Derived.StillTailTactics
import Derived.Deep.RegionWith
import Derived.Outline
namespace Go.Proofs.Ytnfnoefjgiojoaa
open Go.RowKit Go.Maps Go.WideMaps

/-- a row of groups that the call owns -/
def GRow (w : World) (base g n c : Nat) (d : List Grp) : Prop := w.ownsRow base 36 3 (.slice (some ⟨g, 0, none⟩) n c) n (flatK Grp.cells d)

section
variable {w w' : World} {base g n c : Nat} {d : List Grp}
theorem GRow.len (h : GRow w base g n c d) : d.length = n := by
  have := h.1
  rw [flatK_len Grp.cells 3 (fun _ => rfl)] at this
  omega
theorem GRow.cells (h : GRow w base g n c d) {i : Nat} {x : Grp} (hi : d[i]? = some x) : w.cell? ⟨g, i * 3, none⟩ = some (.string x.name) ∧ w.cell? ⟨g, i * 3 + 1, none⟩ = some (.int .i64 x.lo) ∧ w.cell? ⟨g, i * 3 + 2, none⟩ = some (.int .i64 x.hi) := by
  obtain ⟨hl, rfl⟩ := List.getElem?_eq_some_iff.1 hi
  have hn := h.len
  have key : ∀ j u, (Grp.cells d[i])[j]? = some u → j < 3 → w.cell? ⟨g, i * 3 + j, none⟩ = some u := by
    intro j u hu hj
    rw [World.ownsRow.cellAt h (i * 3 + j) (by omega), flatK_get Grp.cells 3 (fun _ => rfl) d i j hl hj]
    exact hu
  exact ⟨key 0 _ rfl (by omega), key 1 _ rfl (by omega), key 2 _ rfl (by omega)⟩
theorem GRow.frozen (h : GRow w base g n c d) (i : Nat) : w.frozen? ⟨g, i, none⟩ = false := World.ownsRow.frozenAt h i
theorem GRow.keep (h : GRow w base g n c d) (hb : Below w.heap.size w w') : GRow w' base g n c d := own_keep h hb
theorem GRow.drew (h : GRow w base g n c d) : GRow w.drew base g n c d := h
theorem GRow.drewN (h : GRow w base g n c d) (k : Nat) : GRow (w.drewN k) base g n c d := h
end

theorem flatK_set (d : List Grp) (i : Nat) (x : Grp) (hi : i < d.length) : (((flatK Grp.cells d).set (i * 3) (.string x.name)).set (i * 3 + 1) (.int .i64 x.lo)).set (i * 3 + 2) (.int .i64 x.hi) = flatK Grp.cells (d.set i x) := by
  induction d generalizing i with
  | nil => simp at hi
  | cons y r ih =>
    cases i with
    | zero => simp [flatK, Grp.cells]
    | succ i =>
      have h1 := ih i (by simpa using hi)
      simp only [flatK, List.flatMap_cons, Grp.cells, List.cons_append, List.nil_append, List.set_cons_succ] at *
      rw [show (i + 1) * 3 = i * 3 + 1 + 1 + 1 by omega]
      simp only [List.set_cons_succ, h1]

/-- storing a group -/
theorem GRow.set {w : World} {base g n c : Nat} {d : List Grp} (h : GRow w base g n c d) {i : Nat} (hi : i < d.length) (x : Grp) :
    GRow (((w.setCell ⟨g, i * 3, none⟩ (.string x.name)).setCell ⟨g, i * 3 + 1, none⟩ (.int .i64 x.lo)).setCell ⟨g, i * 3 + 2, none⟩ (.int .i64 x.hi)) base g n c (d.set i x) ∧
    w.grownBy (((w.setCell ⟨g, i * 3, none⟩ (.string x.name)).setCell ⟨g, i * 3 + 1, none⟩ (.int .i64 x.lo)).setCell ⟨g, i * 3 + 2, none⟩ (.int .i64 x.hi)) (some g) := by
  have s1 := World.ownsRow.stored h (i * 3) (.string x.name)
  have s2 := s1.1.stored (i * 3 + 1) (.int .i64 x.lo)
  have s3 := s2.1.stored (i * 3 + 2) (.int .i64 x.hi)
  refine ⟨?_, ?_⟩
  · have h3 := s3.1
    rw [flatK_set d i x hi] at h3
    exact h3
  · exact ⟨rfl, rfl, rfl, by simp, fun k hk hne => (s3.2.block k (by simpa using hk) hne).trans ((s2.2.block k (by simpa using hk) hne).trans (s1.2.block k hk hne))⟩

/-- a comparison: an int is returned that is negative just where p holds; nothing that was there has changed -/
def RetCmp (p : Prop) (w : World) (x : Ending) (w' : World) : Prop := ∃ c : Int, x = .returned (.int .i64 c) ∧ (c < 0 ↔ p) ∧ Below w.heap.size w w'

def gv (x : Grp) : Value := .agg #[.string x.name, .int .i64 x.lo, .int .i64 x.hi]

theorem grown_trans {a w c : World} {r : Option Nat} (h : a.grownBy w r) (g : w.grownBy c r) : a.grownBy c r :=
  ⟨g.os.trans h.os, g.tape.trans h.tape, g.output.trans h.output, Nat.le_trans h.size g.size, fun k hk hne => (g.block k (Nat.lt_of_lt_of_le hk h.size) hne).trans (h.block k hk hne)⟩
theorem grown_refl (w : World) (r : Option Nat) : w.grownBy w r := ⟨rfl, rfl, rfl, Nat.le_refl _, fun _ _ _ => rfl⟩
theorem grown_below {a w w' : World} {r : Option Nat} (h : a.grownBy w r) (g : Below w.heap.size w w') : a.grownBy w' r :=
  grown_trans h ⟨g.os, g.tape, g.output, g.size, fun k hk _ => g.block k hk⟩
theorem grown_drew {a w : World} {r : Option Nat} (h : a.grownBy w r) : a.grownBy w.drew r := grown_below h (below_of_drewN w 1)
theorem grown_drewN {a w : World} {r : Option Nat} (h : a.grownBy w r) (n : Nat) : a.grownBy (w.drewN n) r := grown_below h (below_of_drewN w n)

/-- the comparing closure compares by keys in every world in which only block g has changed -/
def okN (x : Grp) : Prop := x.name.size ≤ 9223372036854775807
def Cmps (g B : Nat) (w0 : World) (key : Grp → Int) : Prop :=
  ∀ W, w0.grownBy W (some g) → ∀ x y : Grp, okN x → okN y → Calls Try.prog 31 #[gv x, gv y, .pointer (some ⟨B, 0, none⟩)] W (RetCmp (key x < key y) W)

/-- nothing is returned; the row's groups have become d' as R says; nothing else that was there has changed -/
def RetG (R : List Grp → Prop) (base g n c : Nat) (w : World) (x : Ending) (w' : World) : Prop := x = .returned (.tuple #[]) ∧ ∃ d', R d' ∧ GRow w' base g n c d' ∧ w.grownBy w' (some g)

theorem St_mem {key : Grp → Int} {d d' : List Grp} (h : Srt.St key d d') {x : Grp} (hx : x ∈ d') : x ∈ d := by
  have h1 : x ∈ d'.filter (fun y => key y == key x) := List.mem_filter.2 ⟨hx, by simp⟩
  rw [h (key x)] at h1
  exact (List.mem_filter.1 h1).1

theorem get_of_lt {d : List Grp} {i : Nat} (h : i < d.length) : ∃ x, d[i]? = some x := ⟨d[i], List.getElem?_eq_getElem h⟩

set_option maxRecDepth 100000 in
set_option maxHeartbeats 3200000 in
theorem insertG_any (base g B n c q : Nat) (key : Grp → Int) (d : List Grp) (w : World) (hR : GRow w base g n c d) (hq : q ≤ n) (hbig : n ≤ 1048576) (hC : Cmps g B w key) (hok : ∀ x ∈ d, okN x) :
    Calls Try.prog 59 #[.slice (some ⟨g, 0, none⟩) n c, .int .i64 0, .int .i64 q, .func (.func 31) #[] #[.pointer (some ⟨B, 0, none⟩)]] w
      (RetG (fun d' => Srt.Done key d d' 0 q) base g n c w) := by
  have hn := hR.len
  subst hn
  have HC := Lib.hid hC; clear hC
  have HOK := Lib.hid hok; clear hok
  go_enter Try.func59, Try.ntmps59
  go_wp2
  go_loopw [8] (fun i wr => ∃ (k : Nat) (d1 : List Grp), 1 ≤ k ∧ (k ≤ q ∨ k = 1) ∧ i = .int .i64 k ∧ Srt.Same d d1 0 q ∧ Srt.St key d d1 ∧ Srt.SortedOn key d1 0 k ∧ GRow wr base g d.length c d1 ∧ w.grownBy wr (some g)) (fun i _ => q - (intOf i).toNat)
  case atStart => exact ⟨1, d, Nat.le_refl _, .inr rfl, rfl, Srt.Same.refl _ _ _, Srt.St.refl _, Srt.SortedOn.short (by omega), hR, grown_refl _ _⟩
  case round =>
    obtain ⟨k, d1, hk1, hk2, rfl, hsame, hst, hso, hR1, hg⟩ := hrel
    have HA := Lib.hid hsame; have HT := Lib.hid hst; have HO := Lib.hid hso
    clear hsame hst hso
    by_cases hlt : k < q
    · obtain ⟨wo, rfl⟩ : ∃ wo : World, wo = wr := ⟨_, rfl⟩
      go_wp2
      go_loopw [9] (fun i wr => ∃ (j : Nat) (d2 : List Grp), j ≤ k ∧ i = .int .i64 j ∧ Srt.Same d d2 0 q ∧ Srt.St key d d2 ∧ Srt.Ins key d2 0 k j ∧ GRow wr base g d.length c d2 ∧ w.grownBy wr (some g)) (fun i _ => (intOf i).toNat)
      case atStart => exact ⟨k, d1, Nat.le_refl _, rfl, HA.out, HT.out, Srt.Ins.start HO.out, hR1, hg⟩
      case round =>
        obtain ⟨j, d2, hj2, rfl, hsame, hst, hins, hR2, hg2⟩ := hrel
        have HA2 := Lib.hid hsame; have HT2 := Lib.hid hst; have HI := Lib.hid hins
        clear hsame hst hins
        by_cases hpj : 0 < j
        · have hjn : j < d.length := by omega
          obtain ⟨x, hx⟩ := get_of_lt (d := d2) (i := j - 1) (by rw [HA2.out.1]; omega)
          obtain ⟨y, hy⟩ := get_of_lt (d := d2) (i := j) (by rw [HA2.out.1]; omega)
          obtain ⟨x1, x2, x3⟩ := hR2.cells hx
          obtain ⟨y1, y2, y3⟩ := hR2.cells hy
          have HX := Lib.hid hx; have HY := Lib.hid hy
          have C := Lib.hid (fun W hW => HC.out W hW y x (HOK.out y (St_mem HT2.out (List.mem_of_getElem? hy))) (HOK.out x (St_mem HT2.out (List.mem_of_getElem? hx))))
          clear hx hy
          have i0 : decide ((0 : Int) < (j : Int)) = true := by simp; omega
          have i1 : IntKind.i64.wrap ((j : Int) - 1) = (j : Int) - 1 := IntWalk.i64_in _ (by omega)
          have i2 : (0 : Int) ≤ (j : Int) - 1 := by omega
          have i2' : (1 : Int) ≤ (j : Int) := by omega
          have i2'' : 1 ≤ j := by omega
          have i3 : ((j : Int) - 1).toNat = j - 1 := by omega
          have i4 : (j : Int) - 1 < (d.length : Int) := by omega
          have i5 : (j : Int) < (d.length : Int) := by omega
          unfold gv at C
          go_wp2
          refine wp_region_still_tail 14 (by kernel_rfl) (by kernel_rfl) ?_
          simp only [List.take_succ_cons, List.take_zero, List.drop_succ_cons, List.drop_zero]
          change wpStill _ _ wr.drew _ _ _
          repeat still_step
          refine wpStill_nil ?_
          change wpList _ _ _ _ _ wr.drew
          go_wp2_with fail
          refine (C.out _ (grown_drew hg2)).mono ?_
          rintro e w3 ⟨cc, rfl, hcc, hb3⟩
          have hR3 := (hR2.drew).keep hb3
          have hg3 := grown_below (grown_drew hg2) hb3
          obtain ⟨x1', x2', x3'⟩ := hR3.cells HX.out
          obtain ⟨y1', y2', y3'⟩ := hR3.cells HY.out
          have fr := hR3.frozen
          clear hR2 hg2 hb3 x1 x2 x3 y1 y2 y3
          by_cases hkey : key y < key x
          · have hneg : cc < 0 := hcc.2 hkey
            have HKEY := Lib.hid hkey
            clear hcc hkey
            have hne : ¬ (j - 1 = j) := by omega
            have HR3 := Lib.hid hR3
            clear hR3
            go_wp2
            go_region
            go_wp2_with fail
            go_roundw
            case rel =>
              have st1 := HR3.out.set (i := j) (by rw [HA2.out.1]; omega) x
              have st2 := st1.1.set (i := j - 1) (by rw [List.length_set, HA2.out.1]; omega) y
              refine ⟨j - 1, Srt.swp d2 (j - 1) j x y, by omega, by go_num, HA2.out.trans (Srt.swp_same HX.out HY.out (by omega) (by omega) (by omega) (by omega) (by omega)), HT2.out.trans ?_, ?_, ?_, ?_⟩
              · have := Srt.swp_done (key := key) (d := d2) (j := j - 1) HX.out (by rw [show j - 1 + 1 = j by omega]; exact HY.out) HKEY.out
                rw [show j - 1 + 1 = j by omega] at this; exact this
              · have := Srt.Ins.step (key := key) (d := d2) (a := 0) (i := k) (j := j - 1) (x := x) (y := y) (by rw [show j - 1 + 1 = j by omega]; exact HI.out) (by omega) (by omega) HX.out (by rw [show j - 1 + 1 = j by omega]; exact HY.out) HKEY.out
                rw [show j - 1 + 1 = j by omega] at this; exact this
              · rw [Srt.swp, List.set_comm _ _ (by omega)]
                exact st2.1.drew
              · exact grown_drew (grown_trans hg3 (grown_trans st1.2 st2.2))
            case measure => simp [intOf]; omega
          · have hneg : ¬ cc < 0 := fun h => hkey (hcc.1 h)
            clear hcc
            go_wp2
            go_roundw
            case rel =>
              refine ⟨k + 1, d2, by omega, .inl (by omega), by go_num, HA2.out, HT2.out, HI.out.stop (by omega) hj2 (.inr ?_), hR3, hg3⟩
              rw [Srt.kf_some HX.out, Srt.kf_some HY.out]; omega
            case measure => simp [intOf]; omega
        · have i0 : decide ((0 : Int) < (j : Int)) = false := by simp; omega
          go_wp2
          go_quiet (fail)
          go_wp2
          go_roundw
          case rel => exact ⟨k + 1, d2, by omega, .inl (by omega), by go_num, HA2.out, HT2.out, HI.out.stop (by omega) hj2 (.inl (by omega)), hR2.drewN _, grown_drewN hg2 _⟩
          case measure => simp [intOf]; omega
    · go_wp2
      go_end0
      refine ⟨rfl, d1, ⟨HA.out, HT.out, ?_⟩, hR1, hg⟩
      by_cases hkq : q ≤ k
      · exact HO.out.sub (Nat.le_refl _) hkq
      · omega

set_option maxRecDepth 100000 in
theorem stableG_any (base g B n c : Nat) (key : Grp → Int) (d : List Grp) (w : World) (hR : GRow w base g n c d) (hbig : n ≤ 19) (hC : Cmps g B w key) (hok : ∀ x ∈ d, okN x) :
    Calls Try.prog 47 #[.slice (some ⟨g, 0, none⟩) n c, .int .i64 n, .func (.func 31) #[] #[.pointer (some ⟨B, 0, none⟩)]] w
      (RetG (fun d' => Srt.Done key d d' 0 n) base g n c w) := by
  have C := Lib.hid (insertG_any base g B n c n key d w hR (Nat.le_refl _) (by omega) hC hok)
  clear hR hC hok
  go_enter Try.func47, Try.ntmps47
  go_wp2_with fail
  refine wp_loop_rounds 1 ?_
  rw [rounds_succ]
  go_wp2_with fail
  refine C.out.mono ?_
  rintro e w1 ⟨rfl, d1, hD, hR1, hg1⟩
  have HD := Lib.hid (And.intro hD (And.intro hR1 hg1))
  clear hD hR1 hg1
  go_wp2_with fail
  refine wp_loop_rounds 1 ?_
  rw [rounds_succ]
  go_wp2_with fail
  go_end0
  exact ⟨rfl, d1, HD.out.1, HD.out.2.1, HD.out.2.2⟩

theorem sortG_any (base g B n c : Nat) (key : Grp → Int) (d : List Grp) (w : World) (hR : GRow w base g n c d) (hbig : n ≤ 19) (hC : Cmps g B w key) (hok : ∀ x ∈ d, okN x) :
    Calls Try.prog 30 #[.slice (some ⟨g, 0, none⟩) n c, .func (.func 31) #[] #[.pointer (some ⟨B, 0, none⟩)]] w
      (RetG (fun d' => Srt.Done key d d' 0 n) base g n c w) := by
  have C := Lib.hid (stableG_any base g B n c key d w hR hbig hC hok)
  clear hR hC hok
  go_enter Try.func30, Try.ntmps30
  go_wp2_with fail
  refine C.out.mono ?_
  rintro e w1 ⟨rfl, d1, hD, hR1, hg1⟩
  have HD := Lib.hid (And.intro hD (And.intro hR1 hg1))
  clear hD hR1 hg1
  go_wp2_with fail
  go_end0
  exact ⟨rfl, d1, HD.out.1, HD.out.2.1, HD.out.2.2⟩

end Go.Proofs.Ytnfnoefjgiojoaa
