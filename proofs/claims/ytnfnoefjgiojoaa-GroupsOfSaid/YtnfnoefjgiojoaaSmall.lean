/- What is small: Small, few; and the index of a weight's group. -/
import Derived.Test.YtnfnoefjgiojoaaSameG
namespace Go.Proofs.Ytnfnoefjgiojoaa
open Go.RowKit Go.Maps Go.WideMaps

def smallC (c : Col) : Bool := decide (c.ents.length ≤ 12) && decide (c.grps.length ≤ 8) && c.ents.all (fun x => decide (x.codes.length ≤ 10) && decide (x.elems.length ≤ 20))
theorem small_sz {c : Col} (h : smallC c = true) : ColSz c ∧ c.grps.length ≤ 8 ∧ c.ents.length ≤ 12 ∧ ∀ x ∈ c.ents, x.codes.length ≤ 10 ∧ x.elems.length ≤ 20 := by
  unfold smallC at h
  simp only [Bool.and_eq_true, decide_eq_true_eq, List.all_eq_true] at h
  obtain ⟨⟨h1, h2⟩, h3⟩ := h
  refine ⟨⟨fun i hi => ?_, by omega, by omega⟩, h2, h1, h3⟩
  have := h3 _ (List.getElem_mem hi)
  omega
section
variable {c : Col}
theorem small1 (h : ¬ c.ents.length ≤ 12) : smallC c = false := by simp [smallC]; omega
theorem small2 (h : ¬ c.grps.length ≤ 8) : smallC c = false := by simp [smallC]; omega
theorem small3 {k : Nat} (hk : k < c.ents.length) (h : ¬ (c.ents[k].codes.length ≤ 10 ∧ c.ents[k].elems.length ≤ 20)) : smallC c = false := by
  cases hs : smallC c with
  | false => rfl
  | true => exact absurd ((small_sz hs).2.2.2 _ (List.getElem_mem hk)) h
theorem small4 (h1 : c.ents.length ≤ 12) (h2 : c.grps.length ≤ 8) (h : ∀ t, (ht : t < c.ents.length) → c.ents[t].codes.length ≤ 10 ∧ c.ents[t].elems.length ≤ 20) : smallC c = true := by
  unfold smallC
  simp only [Bool.and_eq_true, decide_eq_true_eq, List.all_eq_true]
  refine ⟨⟨h1, h2⟩, fun x hx => ?_⟩
  obtain ⟨t, ht, rfl⟩ := List.getElem_of_mem hx
  exact h t ht
end

set_option maxRecDepth 100000 in
set_option maxHeartbeats 3200000 in
theorem Small_any (A : Option Addr) (n a : Nat) (B : Option Addr) (m b : Nat) (c : Col) (w : World) (h : ColAt w A n B m c) :
    Calls Try.prog 27 #[colV A n a B m b c] w fun e w' => e = .returned (.bool (smallC c)) ∧ Below w.heap.size w w' := by
  have B0 : Below w.heap.size w (w.alloc (.cells #[.slice A n a, .slice B m b, .int .i64 c.base, .int .i64 c.second, .int .i64 c.third] 25)) := (Below.refl _ _).alloc (Nat.le_refl _) _
  have k0 : (w.alloc (.cells #[.slice A n a, .slice B m b, .int .i64 c.base, .int .i64 c.second, .int .i64 c.third] 25)).cell? ⟨w.heap.size, 0, none⟩ = some (.slice A n a) := by simp
  have k1 : (w.alloc (.cells #[.slice A n a, .slice B m b, .int .i64 c.base, .int .i64 c.second, .int .i64 c.third] 25)).cell? ⟨w.heap.size, 1, none⟩ = some (.slice B m b) := by simp
  have W0E : ∃ W0, w.alloc (.cells #[.slice A n a, .slice B m b, .int .i64 c.base, .int .i64 c.second, .int .i64 c.third] 25) = W0 := ⟨_, rfl⟩
  have S1 := Lib.hid (small1 (c := c)); have S2 := Lib.hid (small2 (c := c)); have S3 := Lib.hid (fun k => small3 (c := c) (k := k)); have S4 := Lib.hid (small4 (c := c))
  have HE := Lib.hid h.ents
  have hn := h.hn
  have hm := h.hm
  unfold colV
  generalize smallC c = r at *
  generalize c.base = cb at *
  generalize c.second = cs at *
  generalize c.third = ct at *
  generalize c.ents = es at *
  generalize c.grps = gs at *
  subst hn
  subst hm
  clear h
  go_enter Try.func27, Try.ntmps27
  by_cases h1 : es.length ≤ 12
  · have q1 : decide ((12 : Int) < (es.length : Int)) = false := by simp; omega
    by_cases h2 : gs.length ≤ 8
    · have q2 : decide ((8 : Int) < (gs.length : Int)) = false := by simp; omega
      clear S1 S2
      go_wp2_with fail
      obtain ⟨W0, hW0⟩ := W0E
      rw [hW0] at B0 k0 k1 ⊢
      clear hW0 k1
      have HE0 := Lib.hid (HE.out.below B0)
      go_loopw [3] (fun u wr => ∃ i : Nat, i ≤ es.length ∧ u = .int .i64 i ∧ (∀ t, (ht : t < es.length) → t < i → es[t].codes.length ≤ 10 ∧ es[t].elems.length ≤ 20) ∧ wr = W0) (fun u _ => es.length - (intOf u).toNat)
      case atStart => exact ⟨0, Nat.zero_le _, rfl, fun t _ h => by omega, rfl⟩
      case round =>
        obtain ⟨i, hi, rfl, hne, rfl⟩ := hrel
        have HNE := Lib.hid hne; clear hne
        by_cases hlt : i < es.length
        · obtain ⟨b1, o1, rfl, hbl, hcell⟩ := HE0.out.at hlt
          obtain ⟨C, c', E, d, c1, c2, _, _⟩ := hcell i hlt
          have HN := Lib.hid (fun h => all_up (P := fun x => x.codes.length ≤ 10 ∧ x.elems.length ≤ 20) hlt HNE.out h)
          have HY := Lib.hid (fun h => S3.out i hlt h)
          clear hcell S3 S4
          generalize es[i] = ei at *
          obtain ⟨ec, ee⟩ := ei
          dsimp only at *
          by_cases h3 : ec.length ≤ 10
          · have q3 : decide ((10 : Int) < (ec.length : Int)) = false := by simp; omega
            by_cases h4 : ee.length ≤ 20
            · have q4 : decide ((20 : Int) < (ee.length : Int)) = false := by simp; omega
              have HQ := Lib.hid (HN.out ⟨h3, h4⟩)
              clear HN HY
              go_wp2_with fail
              go_roundw
              case rel => exact ⟨i + 1, by omega, by go_num, HQ.out, trivial⟩
              case measure => simp [intOf]; omega
            · have q4 : decide ((20 : Int) < (ee.length : Int)) = true := by simp; omega
              obtain rfl := HY.out (fun h => h4 h.2)
              clear HN HY
              go_wp2_with fail
              go_ret
              exact ⟨rfl, B0⟩
          · have q3 : decide ((10 : Int) < (ec.length : Int)) = true := by simp; omega
            obtain rfl := HY.out (fun h => h3 h.1)
            clear HN HY
            go_wp2_with fail
            go_ret
            exact ⟨rfl, B0⟩
        · obtain rfl := S4.out h1 h2 (fun t ht => HNE.out t ht (by omega))
          go_wp2_with fail
          go_ret
          exact ⟨rfl, B0⟩
    · have q2 : decide ((8 : Int) < (gs.length : Int)) = true := by simp; omega
      obtain rfl := S2.out h2
      clear S1 S2 S3 S4
      go_wp2_with fail
      go_ret
      exact ⟨rfl, B0⟩
  · have q1 : decide ((12 : Int) < (es.length : Int)) = true := by simp; omega
    obtain rfl := S1.out h1
    clear S1 S2 S3 S4
    go_wp2_with fail
    go_ret
    exact ⟨rfl, B0⟩

def fewC (c : Col) (names : List ByteArray) : Bool := smallC c && decide (names.length ≤ 12)

set_option maxRecDepth 100000 in
set_option maxHeartbeats 3200000 in
theorem few_any (A : Option Addr) (n a : Nat) (B : Option Addr) (m b : Nat) (c : Col) (N : Option Addr) (kn kc : Nat) (names : List ByteArray) (w : World) (h : ColAt w A n B m c) (hkn : names.length = kn) :
    Calls Try.prog 11 #[colV A n a B m b c, .slice N kn kc] w fun e w' => e = .returned (.bool (fewC c names)) ∧ Below w.heap.size w w' := by
  have B0 : Below w.heap.size w (w.alloc (.cells #[.slice A n a, .slice B m b, .int .i64 c.base, .int .i64 c.second, .int .i64 c.third] 25)) := (Below.refl _ _).alloc (Nat.le_refl _) _
  have C := Lib.hid (Small_any A n a B m b c _ (h.below B0))
  unfold fewC
  subst hkn
  unfold colV at *
  go_enter Try.func11, Try.ntmps11
  go_wp2_with fail
  refine C.out.mono ?_
  rintro e w1 ⟨rfl, hb1⟩
  have hb2 := B0.trans (hb1.mono B0.size)
  cases hs : smallC c with
  | true =>
    go_wp2_with fail
    go_ret
    refine ⟨ret_bool ?_, hb2⟩
    rw [hs, Bool.true_and]
    exact decide_eq_decide.2 (by omega)
  | false =>
    go_wp2_with fail
    go_ret
    exact ⟨ret_bool (by rw [hs]; rfl), hb2⟩

/-- the index of the group of a weight -/
def grpd (gs : List Grp) (x : Int) : Int := match gs.findIdx? (fun g => inR g.lo g.hi x) with | some k => (k : Int) | none => -1
theorem grpd_at {gs : List Grp} {x : Int} {k : Nat} (hk : k < gs.length) (h : inR gs[k].lo gs[k].hi x = true) (hb : ∀ t, (ht : t < gs.length) → t < k → inR gs[t].lo gs[t].hi x = false) : grpd gs x = k := by
  have : gs.findIdx? (fun g => inR g.lo g.hi x) = some k := by
    rw [List.findIdx?_eq_some_iff_getElem]
    exact ⟨hk, h, fun j hj => by simp [hb j (by omega) hj]⟩
  unfold grpd; rw [this]
theorem grpd_none {gs : List Grp} {x : Int} (h : ∀ t, (ht : t < gs.length) → inR gs[t].lo gs[t].hi x = false) : grpd gs x = -1 := by
  have : gs.findIdx? (fun g => inR g.lo g.hi x) = none := by
    rw [List.findIdx?_eq_none_iff]
    intro g hg
    obtain ⟨t, ht, rfl⟩ := List.getElem_of_mem hg
    simp [h t ht]
  unfold grpd; rw [this]

set_option maxRecDepth 100000 in
set_option maxHeartbeats 3200000 in
theorem grouped_any (A : Option Addr) (n k : Nat) (gs : List Grp) (x : Int) (w : World) (hA : Grps w A gs) (hn : gs.length = n) (hb : n ≤ 1048576) :
    Calls Try.prog 18 #[.slice A n k, .int .i64 x] w fun e w' => e = .returned (.int .i64 (grpd gs x)) ∧ w = w' := by
  subst hn
  have C1 := Lib.hid (fun k hk h hb => grpd_at (gs := gs) (x := x) (k := k) hk h hb)
  have C0 := Lib.hid (grpd_none (gs := gs) (x := x))
  generalize grpd gs x = r at *
  have HA := Lib.hid hA; clear hA
  go_enter Try.func18, Try.ntmps18
  go_wp2
  go_loopw [5] (fun u wr => ∃ i : Nat, i ≤ gs.length ∧ u = .int .i64 i ∧ (∀ t, (ht : t < gs.length) → t < i → inR gs[t].lo gs[t].hi x = false) ∧ w = wr) (fun u _ => gs.length - (intOf u).toNat)
  case atStart => exact ⟨0, Nat.zero_le _, rfl, fun t _ h => by omega, rfl⟩
  case round =>
    obtain ⟨i, hi, rfl, hne, rfl⟩ := hrel
    have HNE := Lib.hid hne; clear hne
    by_cases hlt : i < gs.length
    · obtain ⟨b1, o1, rfl, hbl, hcell⟩ := HA.out.at hlt
      obtain ⟨c1, c2, c3⟩ := hcell i hlt
      have HB := Lib.hid (fun h => C1.out i hlt h HNE.out)
      have HN := Lib.hid (fun h => all_up (P := fun g => inR g.lo g.hi x = false) hlt HNE.out h)
      clear hcell
      generalize gs[i] = gi at *
      obtain ⟨xn, xlo, xhi⟩ := gi
      dsimp only at *
      by_cases h1 : xlo ≤ x
      · by_cases h2 : x ≤ xhi
        · obtain rfl := HB.out (inR_true h1 h2)
          have q1 : decide (xlo ≤ x) = true := by simpa using h1
          have q2 : decide (x ≤ xhi) = true := by simpa using h2
          clear HB HN C1 C0
          go_wp2_with fail
          go_ret
          exact ⟨rfl, rfl⟩
        · have HQ := Lib.hid (HN.out (inR_hi (by omega)))
          have q1 : decide (xlo ≤ x) = true := by simpa using h1
          have q2 : decide (x ≤ xhi) = false := by simpa using h2
          clear HB HN C1 C0
          go_wp2_with fail
          go_roundw
          case rel => exact ⟨i + 1, by omega, by go_num, HQ.out, trivial⟩
          case measure => simp [intOf]; omega
      · have HQ := Lib.hid (HN.out (inR_lo (by omega)))
        have q1 : decide (xlo ≤ x) = false := by simpa using h1
        clear HB HN C1 C0
        go_wp2_with fail
        go_roundw
        case rel => exact ⟨i + 1, by omega, by go_num, HQ.out, trivial⟩
        case measure => simp [intOf]; omega
    · obtain rfl := C0.out (fun t ht => HNE.out t ht (by omega))
      go_wp2
      go_ret
      exact ⟨rfl, rfl⟩

end Go.Proofs.Ytnfnoefjgiojoaa
