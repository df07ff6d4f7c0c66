/- Texts that are merged into one file: SetB, StepApp. -/
import Derived.Test.YtjglanjfgbipmaaGreatDoorG01
import Derived.Test.YtjglanjfgbipmaaGreatDoorG06
import Derived.Deep.AppendLies
/- Contracts of cpset.Has and of the reference's Has, Small, place, Cuts and keeps. Written by gen_setb.py. -/
namespace Go.Proofs.YtjglanjfgbipmaaGreatDoor
open Go.RowKit Go.Maps Go.WideMaps

theorem hasR_no {rs : List Rg} {c : Int} (h : inR 0 1114111 c = false) : hasR rs c = false := by unfold hasR; rw [h]; rfl
theorem hasR_yes {rs : List Rg} {c : Int} (h : inR 0 1114111 c = true) {k : Nat} (hk : k < rs.length) (h2 : inR rs[k].lo rs[k].hi c = true) : hasR rs c = true := by unfold hasR; rw [h, Bool.true_and]; exact anyT hk h2
theorem hasR_not {rs : List Rg} {c : Int} (h2 : ∀ t, (ht : t < rs.length) → inR rs[t].lo rs[t].hi c = false) : hasR rs c = false := by unfold hasR; rw [anyF h2, Bool.and_false]

set_option maxRecDepth 100000 in
set_option maxHeartbeats 3200000 in
theorem cpHas_any (A : Option Addr) (n a : Nat) (rs : List Rg) (c : Int) (w : World) (hA : Rgs w A rs) (hn : rs.length = n) (hb : n ≤ 1048576) :
    Calls Tryz.prog 50 #[.agg #[.slice A n a], .int .i64 c] w (RetBool (hasR rs c) w) := by
  subst hn
  have H0 := Lib.hid (hasR_no (rs := rs) (c := c))
  have H1 := Lib.hid (fun h k hk h2 => hasR_yes (rs := rs) (c := c) h (k := k) hk h2)
  have H2 := Lib.hid (hasR_not (rs := rs) (c := c))
  generalize hasR rs c = R at *
  have B0 : Below w.heap.size w (w.alloc (.cells #[.slice A rs.length a] 26)) := (Below.refl _ _).alloc (Nat.le_refl _) _
  have k0 : (w.alloc (.cells #[.slice A rs.length a] 26)).cell? ⟨w.heap.size, 0, none⟩ = some (.slice A rs.length a) := by simp
  have s0 : (w.alloc (.cells #[.slice A rs.length a] 26)).heap.size = w.heap.size + 1 := by simp
  have W0E : ∃ W0, (w.alloc (.cells #[.slice A rs.length a] 26)) = W0 := ⟨_, rfl⟩
  have HA := Lib.hid hA
  clear hA
  cases hv : inR 0 1114111 c with
  | false =>
    obtain rfl := H0.out hv
    go_enter Tryz.func50, Tryz.ntmps50
    go_wp2_with (go_at_call 71; refine (cpValid_any c _).mono ?_; rw [hv]; rintro e w' ⟨rfl, rfl⟩)
    go_ret
    exact ⟨rfl, B0⟩
  | true =>
    have H1 := Lib.hid (H1.out hv)
    go_enter Tryz.func50, Tryz.ntmps50
    go_wp2_with (go_at_call 71; refine (cpValid_any c _).mono ?_; rw [hv]; rintro e w' ⟨rfl, rfl⟩)
    obtain ⟨W0, hW0⟩ := W0E
    rw [hW0] at B0 k0 s0 ⊢
    clear hW0
    have HA0 := Lib.hid (HA.out.below B0)
    clear HA
    go_loopw [13] (fun u wr => ∃ i : Nat, i ≤ rs.length ∧ u = .int .i64 i ∧ (∀ t, (ht : t < rs.length) → t < i → inR rs[t].lo rs[t].hi c = false) ∧ Below W0.heap.size W0 wr) (fun u _ => rs.length - (intOf u).toNat)
    case atStart => exact ⟨0, Nat.zero_le _, rfl, fun t _ h => by omega, Below.refl _ _⟩
    case round =>
      obtain ⟨i, hi, rfl, hno, hbr⟩ := hrel
      have HNO := Lib.hid hno
      clear hno
      by_cases hlt : i < rs.length
      · obtain ⟨b1, o1, rfl, hbl, hcell⟩ := (HA0.out.below hbr).at hlt
        obtain ⟨c1, c2⟩ := hcell i hlt
        have HY := Lib.hid (fun h => H1.out i hlt h)
        have HN := Lib.hid (fun h => all_up (P := fun r : Rg => inR r.lo r.hi c = false) hlt HNO.out h)
        clear hcell
        generalize rs[i] = ri at *
        obtain ⟨rlo, rhi⟩ := ri
        dsimp only at *
        by_cases h1 : rlo ≤ c
        · have q1 : decide (rlo ≤ c) = true := by simpa using h1
          by_cases h2 : c ≤ rhi
          · have q2 : decide (c ≤ rhi) = true := by simpa using h2
            obtain rfl := HY.out (inR_true h1 h2)
            clear HY HN H1 H2
            go_wp2_with fail
            go_ret
            exact ⟨rfl, B0.trans ((hbr.alloc hbr.size _).mono B0.size)⟩
          · have q2 : decide (c ≤ rhi) = false := by simpa using h2
            have HQ := Lib.hid (HN.out (inR_hi (by omega)))
            clear HY HN
            go_wp2_with fail
            go_roundw
            case rel => exact ⟨i + 1, by omega, by go_num, HQ.out, hbr.alloc hbr.size _⟩
            case measure => simp [intOf]; omega
        · have q1 : decide (rlo ≤ c) = false := by simpa using h1
          have HQ := Lib.hid (HN.out (inR_lo (by omega)))
          clear HY HN
          go_wp2_with fail
          go_roundw
          case rel => exact ⟨i + 1, by omega, by go_num, HQ.out, hbr.alloc hbr.size _⟩
          case measure => simp [intOf]; omega
      · obtain rfl := H2.out (fun t ht => HNO.out t ht (by omega))
        go_wp2_with fail
        go_ret
        exact ⟨rfl, B0.trans (hbr.mono B0.size)⟩

set_option maxRecDepth 100000 in
set_option maxHeartbeats 3200000 in
theorem refHas_any (A : Option Addr) (n a : Nat) (rs : List Rg) (c : Int) (w : World) (hA : Rgs w A rs) (hn : rs.length = n) (hb : n ≤ 1048576) :
    Calls Tryz.prog 23 #[.agg #[.slice A n a], .int .i64 c] w (RetBool (hasR rs c) w) := by
  subst hn
  have H0 := Lib.hid (hasR_no (rs := rs) (c := c))
  have H1 := Lib.hid (fun h k hk h2 => hasR_yes (rs := rs) (c := c) h (k := k) hk h2)
  have H2 := Lib.hid (hasR_not (rs := rs) (c := c))
  generalize hasR rs c = R at *
  have B0 : Below w.heap.size w (w.alloc (.cells #[.slice A rs.length a] 26)) := (Below.refl _ _).alloc (Nat.le_refl _) _
  have k0 : (w.alloc (.cells #[.slice A rs.length a] 26)).cell? ⟨w.heap.size, 0, none⟩ = some (.slice A rs.length a) := by simp
  have s0 : (w.alloc (.cells #[.slice A rs.length a] 26)).heap.size = w.heap.size + 1 := by simp
  have W0E : ∃ W0, (w.alloc (.cells #[.slice A rs.length a] 26)) = W0 := ⟨_, rfl⟩
  have HA := Lib.hid hA
  clear hA
  go_enter Tryz.func23, Tryz.ntmps23
  go_wp2_with fail
  obtain ⟨W0, hW0⟩ := W0E
  rw [hW0] at B0 k0 s0 ⊢
  clear hW0
  have HA0 := Lib.hid (HA.out.below B0)
  clear HA
  cases hv : inR 0 1114111 c with
  | false =>
    obtain rfl := H0.out hv
    go_loop [5] (fun u => ∃ i : Nat, i ≤ rs.length ∧ u = .int .i64 i) (fun u => rs.length - (intOf u).toNat)
    case atStart => exact ⟨0, Nat.zero_le _, rfl⟩
    case round =>
      obtain ⟨i, hi, rfl⟩ := hrel
      by_cases hlt : i < rs.length
      · go_wp2_with (go_at_call 46; refine (refValid_any c _).mono ?_; rw [hv]; rintro e w' ⟨rfl, rfl⟩)
        go_round
        case rel => exact ⟨i + 1, by omega, by go_num⟩
        case measure => simp [intOf]; omega
      · go_wp2_with fail
        go_ret
        exact ⟨rfl, B0⟩
  | true =>
    have H1 := Lib.hid (H1.out hv)
    go_loop [5] (fun u => ∃ i : Nat, i ≤ rs.length ∧ u = .int .i64 i ∧ (∀ t, (ht : t < rs.length) → t < i → inR rs[t].lo rs[t].hi c = false)) (fun u => rs.length - (intOf u).toNat)
    case atStart => exact ⟨0, Nat.zero_le _, rfl, fun t _ h => by omega⟩
    case round =>
      obtain ⟨i, hi, rfl, hno⟩ := hrel
      have HNO := Lib.hid hno
      clear hno
      by_cases hlt : i < rs.length
      · obtain ⟨b1, o1, rfl, hbl, hcell⟩ := HA0.out.at hlt
        obtain ⟨c1, c2⟩ := hcell i hlt
        have HY := Lib.hid (fun h => H1.out i hlt h)
        have HN := Lib.hid (fun h => all_up (P := fun r : Rg => inR r.lo r.hi c = false) hlt HNO.out h)
        clear hcell
        generalize rs[i] = ri at *
        obtain ⟨rlo, rhi⟩ := ri
        dsimp only at *
        by_cases h1 : rlo ≤ c
        · have q1 : decide (rlo ≤ c) = true := by simpa using h1
          by_cases h2 : c ≤ rhi
          · have q2 : decide (c ≤ rhi) = true := by simpa using h2
            obtain rfl := HY.out (inR_true h1 h2)
            clear HY HN H1 H2
            go_wp2_with (go_at_call 46; refine (refValid_any c _).mono ?_; rw [hv]; rintro e w' ⟨rfl, rfl⟩)
            go_ret
            exact ⟨rfl, B0⟩
          · have q2 : decide (c ≤ rhi) = false := by simpa using h2
            have HQ := Lib.hid (HN.out (inR_hi (by omega)))
            clear HY HN
            go_wp2_with (go_at_call 46; refine (refValid_any c _).mono ?_; rw [hv]; rintro e w' ⟨rfl, rfl⟩)
            go_round
            case rel => exact ⟨i + 1, by omega, by go_num, HQ.out⟩
            case measure => simp [intOf]; omega
        · have q1 : decide (rlo ≤ c) = false := by simpa using h1
          have HQ := Lib.hid (HN.out (inR_lo (by omega)))
          clear HY HN
          go_wp2_with (go_at_call 46; refine (refValid_any c _).mono ?_; rw [hv]; rintro e w' ⟨rfl, rfl⟩)
          go_round
          case rel => exact ⟨i + 1, by omega, by go_num, HQ.out⟩
          case measure => simp [intOf]; omega
      · obtain rfl := H2.out (fun t ht => HNO.out t ht (by omega))
        go_wp2_with fail
        go_ret
        exact ⟨rfl, B0⟩

theorem keepsOr_any (x y : Bool) (w : World) : Calls Tryz.prog 95 #[.int .i64 1, .bool x, .bool y] w (fun e w' => e = .returned (.bool (x || y)) ∧ w = w') := by
  cases x <;> cases y
  all_goals
    go_enter Tryz.func95, Tryz.ntmps95
    go_wp2_with fail
    go_ret
    exact ⟨rfl, rfl⟩

/-! place -/
def anyGe (l : List Int) (n : Int) : Bool := l.any (fun x => decide (n ≤ x))
theorem anyGe_take {l : List Int} {n : Int} {k : Nat} (hk : k < l.length) : anyGe (l.take (k + 1)) n = (anyGe (l.take k) n || decide (n ≤ l[k])) := by
  unfold anyGe; rw [List.take_succ_eq_append_getElem hk, List.any_append]; simp
theorem placeL_snocY : ∀ {l : List Int} {n x : Int}, anyGe l n = true → placeL (l ++ [x]) n = placeL l n ++ [x]
  | y :: r, n, x, h => by
    simp only [List.cons_append, placeL]
    split
    · split <;> rfl
    · next g =>
      have : anyGe r n = true := by
        unfold anyGe at h ⊢
        rw [List.any_cons, Bool.or_eq_true] at h
        rcases h with h | h
        · exact absurd (by simpa using h) g
        · exact h
      rw [placeL_snocY this]; rfl
theorem placeL_no : ∀ {l : List Int} {n : Int}, anyGe l n = false → placeL l n = l ++ [n]
  | [], _, _ => rfl
  | y :: r, n, h => by
    unfold anyGe at h
    rw [List.any_cons, Bool.or_eq_false_iff] at h
    have h1 : ¬ n ≤ y := by simpa using h.1
    simp only [placeL]
    rw [if_neg h1, placeL_no (show anyGe r n = false from h.2)]
    rfl
theorem placeL_snocN : ∀ {l : List Int} {n x : Int}, anyGe l n = false → n ≤ x → placeL (l ++ [x]) n = l ++ (if n < x then [n, x] else [x])
  | [], n, x, _, hx => by
    simp only [List.nil_append, placeL, hx, if_true]
  | y :: r, n, x, h, hx => by
    unfold anyGe at h
    rw [List.any_cons, Bool.or_eq_false_iff] at h
    have h1 : ¬ n ≤ y := by simpa using h.1
    simp only [List.cons_append, placeL]
    rw [if_neg h1, placeL_snocN (show anyGe r n = false from h.2) hx]
/-- after k elements -/
def plk (l : List Int) (n : Int) (k : Nat) : List Int := if anyGe (l.take k) n = true then placeL (l.take k) n else l.take k
section
variable {l : List Int} {n : Int} {k : Nat}
theorem plk_yes (hk : k < l.length) (h : anyGe (l.take k) n = true) : plk l n (k + 1) = plk l n k ++ [l[k]] := by
  unfold plk
  have e := anyGe_take (n := n) hk
  rw [h, Bool.true_or] at e
  rw [if_pos e, if_pos h, List.take_succ_eq_append_getElem hk, placeL_snocY h]
theorem plk_gt (hk : k < l.length) (h : anyGe (l.take k) n = false) (hx : n < l[k]) : plk l n (k + 1) = plk l n k ++ [n] ++ [l[k]] := by
  unfold plk
  have e := anyGe_take (n := n) hk
  rw [h, Bool.false_or, show decide (n ≤ l[k]) = true by simp; omega] at e
  rw [if_pos e, if_neg (by simp [h]), List.take_succ_eq_append_getElem hk, placeL_snocN h (by omega), if_pos hx]
  simp
theorem plk_eq (hk : k < l.length) (h : anyGe (l.take k) n = false) (hx : n = l[k]) : plk l n (k + 1) = plk l n k ++ [l[k]] := by
  unfold plk
  have e := anyGe_take (n := n) hk
  rw [h, Bool.false_or, show decide (n ≤ l[k]) = true by simp; omega] at e
  rw [if_pos e, if_neg (by simp [h]), List.take_succ_eq_append_getElem hk, placeL_snocN h (by omega), if_neg (by omega)]
theorem plk_no (hk : k < l.length) (h : anyGe (l.take k) n = false) (hx : ¬ n ≤ l[k]) : plk l n (k + 1) = plk l n k ++ [l[k]] := by
  unfold plk
  have e := anyGe_take (n := n) hk
  rw [h, Bool.false_or, show decide (n ≤ l[k]) = false by simp; omega] at e
  rw [if_neg (by simp [e]), if_neg (by simp [h]), List.take_succ_eq_append_getElem hk]
theorem plk_len : (plk l n k).length ≤ k + 1 := by
  have : ∀ (s : List Int), (placeL s n).length ≤ s.length + 1 := by
    intro s
    induction s with
    | nil => simp [placeL]
    | cons y r ih =>
      simp only [placeL]
      split
      · split <;> simp
      · simp only [List.length_cons]; omega
  unfold plk
  split
  · have h := this (l.take k)
    have := List.length_take_le k l
    omega
  · have := List.length_take_le k l
    omega
theorem plk_endY (h : anyGe l n = true) : plk l n l.length = placeL l n := by unfold plk; rw [List.take_length, if_pos h]
theorem plk_endN (h : anyGe l n = false) : plk l n l.length ++ [n] = placeL l n := by unfold plk; rw [List.take_length, if_neg (by simp [h]), placeL_no h]
end
theorem placeL_len (l : List Int) (n : Int) : (placeL l n).length ≤ l.length + 1 := by
  induction l with
  | nil => simp [placeL]
  | cons y r ih =>
    simp only [placeL]
    split
    · split <;> simp
    · simp only [List.length_cons]; omega

set_option maxRecDepth 100000 in
set_option maxHeartbeats 6400000 in
theorem place_any (A : Option Addr) (m a : Nat) (l : List Int) (n : Int) (w : World) (hA : Ints w A l) (hm : l.length = m) (hb : m ≤ 1048576) :
    Calls Tryz.prog 112 #[.slice A m a, .int .i64 n] w (RetOwnI (placeL l n) w) := by
  subst hm
  have HA := Lib.hid hA
  have HN := Lib.hid (show w.ownsRow w.heap.size 3 1 (.slice none 0 0) 0 ([] : List Value) from World.ownsRow_nil _ _ _ _)
  have EY := Lib.hid (plk_endY (l := l) (n := n))
  have EN := Lib.hid (plk_endN (l := l) (n := n))
  have P0 := Lib.hid (show plk l n 0 = [] by simp [plk, anyGe])
  clear hA
  generalize placeL l n = R at *
  go_enter Tryz.func112, Tryz.ntmps112
  go_wp2_with fail
  go_loopw [5, 6, 7] (fun v d u wr => ∃ (k : Nat) (S : Option Addr) (c : Nat), k ≤ l.length ∧ u = .int .i64 k ∧ d = .bool (anyGe (l.take k) n) ∧ v = .slice S (plk l n k).length c ∧ wr.ownsRow w.heap.size 3 1 (.slice S (plk l n k).length c) (plk l n k).length ((plk l n k).map (Value.int .i64)) ∧ Below w.heap.size w wr) (fun _ _ u _ => l.length - (intOf u).toNat)
  case atStart => exact ⟨0, none, 0, Nat.zero_le _, rfl, by simp [anyGe], by rw [P0.out]; rfl, by rw [P0.out]; exact HN.out, Below.refl _ _⟩
  case round =>
    obtain ⟨k, S, c, hk, rfl, rfl, rfl, hown, hbr⟩ := hrel
    have HOWN := Lib.hid hown
    clear hown HN P0
    have hpl : (plk l n k).length ≤ k + 1 := plk_len
    by_cases hlt : k < l.length
    · obtain ⟨b1, o1, rfl, hc⟩ := HA.out.at hlt
      have c0 := hc k hlt
      have hbl : b1 < w.heap.size := World.block_lt_of_cell? w _ c0
      have c1 := (hbr.cell (p := ⟨b1, o1 + k, none⟩) hbl).trans c0
      have C0 := Lib.hid c0
      clear c0
      have GT := Lib.hid (anyGe_take (n := n) hlt)
      have QY := Lib.hid (plk_yes (n := n) hlt)
      have QG := Lib.hid (plk_gt (n := n) hlt)
      have QE := Lib.hid (plk_eq (n := n) hlt)
      have QN := Lib.hid (plk_no (n := n) hlt)
      clear hc
      generalize l[k] = x at *
      generalize hL0 : plk l n k = L0 at *
      clear hL0
      have Bp : Below wr.heap.size wr (wr.alloc (.cells #[.int .i64 x] 3)) := (Below.refl _ _).alloc (Nat.le_refl _) _
      have HOP := Lib.hid (own_keep HOWN.out Bp)
      have szp : w.heap.size ≤ (wr.alloc (.cells #[.int .i64 x] 3)).heap.size := Nat.le_trans hbr.size Bp.size
      have hb9 := hbr.trans (Bp.mono hbr.size)
      cases hg : anyGe (l.take k) n with
      | true =>
        have HQ := Lib.hid (QY.out hg)
        have gt := GT.out
        rw [hg, Bool.true_or] at gt
        have HGT := Lib.hid gt
        clear GT QY QG QE QN hg gt Bp
        go_wp2_with (at_builtin; refine wpList_app _ _ 38 3 (.int .i64 0) 1 8 rfl rfl Tryz.underlying38 info_int rfl (by decide) (by decide) rfl HOP.out rfl (Ints_new wr [x] 3 rfl) rfl (oneCell_ints [x]) (by omega) szp ?_; intro A7 c7 w7 hown7 hc7 hb7 _ _; have HO7 := Lib.hid hown7; clear hown7)
        go_roundw
        case rel => exact ⟨k + 1, A7, c7, by omega, by go_num, by rw [HGT.out], by rw [HQ.out]; simp, by rw [HQ.out]; simpa using HO7.out, hb9.trans hb7⟩
        case measure => simp [intOf]; omega
      | false =>
        by_cases h1 : n < x
        · have HQ := Lib.hid (QG.out hg h1)
          have gt := GT.out
          rw [hg, Bool.false_or, show decide (n ≤ x) = true by simp; omega] at gt
          have HGT := Lib.hid gt
          have q1 : decide (n ≤ x) = true := by simp; omega
          have q2 : decide (n < x) = true := by simpa using h1
          clear GT QY QG QE QN hg gt HOP szp hb9 Bp
          have Bn : Below wr.heap.size wr (wr.alloc (.cells #[.int .i64 n] 3)) := (Below.refl _ _).alloc (Nat.le_refl _) _
          have HOP := Lib.hid (own_keep HOWN.out Bn)
          have szp : w.heap.size ≤ (wr.alloc (.cells #[.int .i64 n] 3)).heap.size := Nat.le_trans hbr.size Bn.size
          have hb9 := hbr.trans (Bn.mono hbr.size)
          go_wp2_with (first
            | (at_builtin; refine wpList_app _ _ 38 3 (.int .i64 0) 1 8 rfl rfl Tryz.underlying38 info_int rfl (by decide) (by decide) rfl HOP.out rfl (Ints_new wr [n] 3 rfl) rfl (oneCell_ints [n]) (by omega) szp ?_; clear HOP; intro A7 c7 w7 hown7 hc7 hb7 hgr7 _; have hbw7 := hb9.trans hb7; have HO7 := Lib.hid (own_keep hown7 ((Below.refl w7.heap.size w7).alloc (Nat.le_refl _) (.cells #[.int .i64 x] 3))); have c17 := (hbw7.cell (p := ⟨b1, o1 + k, none⟩) hbl).trans C0.out; have sz7 := hbw7.size; clear hown7 c1)
            | (at_builtin; refine wpList_app _ _ 38 3 (.int .i64 0) 1 8 rfl rfl Tryz.underlying38 info_int rfl (by decide) (by decide) rfl HO7.out rfl (Ints_new w7 [x] 3 rfl) rfl (oneCell_ints [x]) (by omega) (by simp; omega) ?_; intro A8 c8 w8 hown8 hc8 hb8 hgr8 _; have HO8 := Lib.hid hown8; clear hown8))
          go_roundw
          case rel => exact ⟨k + 1, A8, c8, by omega, by go_num, by rw [HGT.out], by rw [HQ.out]; simp, by rw [HQ.out]; simpa using HO8.out, (hbw7.alloc hbw7.size _).trans hb8⟩
          case measure => simp [intOf]; omega
        · by_cases h2 : n = x
          · have HQ := Lib.hid (QE.out hg h2)
            have gt := GT.out
            rw [hg, Bool.false_or, show decide (n ≤ x) = true by simp; omega] at gt
            have HGT := Lib.hid gt
            have q1 : decide (n ≤ x) = true := by simp; omega
            have q2 : decide (n < x) = false := by simpa using h1
            clear GT QY QG QE QN hg gt Bp
            subst h2
            go_wp2_with (at_builtin; refine wpList_app _ _ 38 3 (.int .i64 0) 1 8 rfl rfl Tryz.underlying38 info_int rfl (by decide) (by decide) rfl HOP.out rfl (Ints_new wr [n] 3 rfl) rfl (oneCell_ints [n]) (by omega) szp ?_; intro A7 c7 w7 hown7 hc7 hb7 _ _; have HO7 := Lib.hid hown7; clear hown7)
            go_roundw
            case rel => exact ⟨k + 1, A7, c7, by omega, by go_num, by rw [HGT.out], by rw [HQ.out]; simp, by rw [HQ.out]; simpa using HO7.out, hb9.trans hb7⟩
            case measure => simp [intOf]; omega
          · have HQ := Lib.hid (QN.out hg (by omega))
            have gt := GT.out
            rw [hg, Bool.false_or, show decide (n ≤ x) = false by simp; omega] at gt
            have HGT := Lib.hid gt
            have q1 : decide (n ≤ x) = false := by simp; omega
            clear GT QY QG QE QN hg gt Bp
            go_wp2_with (at_builtin; refine wpList_app _ _ 38 3 (.int .i64 0) 1 8 rfl rfl Tryz.underlying38 info_int rfl (by decide) (by decide) rfl HOP.out rfl (Ints_new wr [x] 3 rfl) rfl (oneCell_ints [x]) (by omega) szp ?_; intro A7 c7 w7 hown7 hc7 hb7 _ _; have HO7 := Lib.hid hown7; clear hown7)
            go_roundw
            case rel => exact ⟨k + 1, A7, c7, by omega, by go_num, by rw [HGT.out], by rw [HQ.out]; simp, by rw [HQ.out]; simpa using HO7.out, hb9.trans hb7⟩
            case measure => simp [intOf]; omega
    · obtain rfl : k = l.length := by omega
      rw [List.take_length]
      cases hg : anyGe l n with
      | true =>
        have e := EY.out hg
        rw [e] at HOWN ⊢
        clear EY EN e hg
        go_wp2_with fail
        go_ret
        exact ⟨S, c, rfl, HOWN.out, hbr⟩
      | false =>
        have HE := Lib.hid (EN.out hg)
        clear EY EN hg
        generalize hL0 : plk l n l.length = L0 at *
        clear hL0
        have Bn : Below wr.heap.size wr (wr.alloc (.cells #[.int .i64 n] 3)) := (Below.refl _ _).alloc (Nat.le_refl _) _
        have HOP := Lib.hid (own_keep HOWN.out Bn)
        have szp : w.heap.size ≤ (wr.alloc (.cells #[.int .i64 n] 3)).heap.size := Nat.le_trans hbr.size Bn.size
        have hb9 := hbr.trans (Bn.mono hbr.size)
        go_wp2_with (at_builtin; refine wpList_app _ _ 38 3 (.int .i64 0) 1 8 rfl rfl Tryz.underlying38 info_int rfl (by decide) (by decide) rfl HOP.out rfl (Ints_new wr [n] 3 rfl) rfl (oneCell_ints [n]) (by omega) szp ?_; intro A7 c7 w7 hown7 hc7 hb7 _ _; have HO7 := Lib.hid hown7; clear hown7)
        go_ret
        refine ⟨A7, c7, ?_, ?_, hb9.trans hb7⟩
        · rw [← HE.out]; simp
        · rw [← HE.out]; simpa using HO7.out

end Go.Proofs.YtjglanjfgbipmaaGreatDoor
/- An append to an owned row, asq a step of a region that draws its order. No program in sight. -/
namespace Go.Proofs.YtjglanjfgbipmaaGreatDoor
open Go.RowKit
variable {P : Program} {w : World}

theorem step_app {ops : Array Oper} {o : Oper} {a : Act} {K : Act → World → Prop} {Q : Exit → Act → World → Prop} {E : Prop} (hgd : o.guard = none) (s x : Operand) (t e : TypeId) (z : Value) (size bytes : Nat)
    (ho : o.op = .call { callee := .builtin .append, args := #[s, x], argTypes := #[t, t] }) (ht : P.underlying t = some (.slice e))
    (hinfo : (P.info? e).map (fun i => (i.zero, i.size, i.bytes)) = some (some z, size, bytes)) (hzs : z.cells.size = size) (hsz : 0 < size) (hby : 0 < bytes)
    {base : Nat} {A : Option Addr} {n c : Nat} {xs : List Value} (hs : a.eval s = .slice A n c) (hown : w.ownsRow base e size (.slice A n c) n xs)
    {A' : Option Addr} {m c' : Nat} {news : List Value} (hx : a.eval x = .slice A' m c') (hr : Sl w A' news) (hl : news.length = m * size) (h1 : ∀ u ∈ news, u.oneCell' = true)
    (hlim : (n + m) * bytes ≤ 140737488355328) (hbase : base ≤ w.heap.size)
    (h : ∀ B k w', w'.ownsRow base e size (.slice B (n + m) k) (n + m) (xs ++ news) → n + m ≤ k → Below base w w' → w.grownBy w' (Value.ownBlock (.slice A n c)) → (B = A ∨ B = some ⟨w.heap.size, 0, none⟩) →
      K (a.put o.dst (.slice B (n + m) k)) w') : if Region.wanted o (yielded ops a.tmps) = true then Oper.wp P o a w K Q else E := by
  have hw : Region.wanted o (yielded ops a.tmps) = true := by simp [Region.wanted, hgd]
  rw [if_pos hw]
  obtain ⟨B, k, w', hrun, h2, h3, h4, h5, h6⟩ := run_app (P := P) t o.type e z size bytes ht hinfo hzs hsz hby hown (c' := c') hr hl h1 hlim hbase
  unfold Oper.wp execOp
  simp only [ho, resolve, invoke, builtin, Sem.run_bind, Sem.run_pure, Result.andThen_ok, List.map_toArray, List.map_cons, List.map_nil, hs, hx, hrun]
  exact h B k w' h2 h3 h4 h5 h6

end Go.Proofs.YtjglanjfgbipmaaGreatDoor
