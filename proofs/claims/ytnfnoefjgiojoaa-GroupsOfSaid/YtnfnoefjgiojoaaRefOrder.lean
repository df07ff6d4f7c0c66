/- The contracts of the reference's index, has and Order. -/
import Derived.Test.YtnfnoefjgiojoaaOrder
namespace Go.Proofs.Ytnfnoefjgiojoaa
open Go.RowKit Go.Maps Go.WideMaps

/-- the index of the group of a name, or -1 -/
def gIdx (gs : List Grp) (s : ByteArray) : Int := if s ∈ gnames gs then (pos (gnames gs) s : Int) else -1
theorem gIdx_none {gs : List Grp} {s : ByteArray} (h : s ∉ gnames gs) : gIdx gs s = -1 := by unfold gIdx; rw [if_neg h]
theorem gIdx_some {gs : List Grp} {s : ByteArray} (h : s ∈ gnames gs) : gIdx gs s = (pos (gnames gs) s : Int) := by unfold gIdx; rw [if_pos h]
theorem pos_first {l : List ByteArray} {s : ByteArray} {k : Nat} (hk : k < l.length) (h : ∀ t, (ht : t < l.length) → t < k → l[t] ≠ s) (e : l[k] = s) : pos l s = k := by
  induction l generalizing k with
  | nil => simp at hk
  | cons x r ih =>
    cases k with
    | zero => have : x = s := e; simp [pos, this]
    | succ k =>
      have h0 : x ≠ s := h 0 (by simp) (by omega)
      have := ih (k := k) (by simpa using hk) (fun t ht htk => h (t + 1) (by simpa using ht) (by omega)) e
      simp [pos, h0, this]
theorem gOf_pos {gs : List Grp} {s : ByteArray} (h : s ∈ gnames gs) : ∃ hk : pos (gnames gs) s < gs.length, gs[pos (gnames gs) s] = gOf gs s := by
  induction gs with
  | nil => cases h
  | cons g r ih =>
    by_cases e : g.name = s
    · refine ⟨by simp [gnames, pos, e], ?_⟩
      have h1 : pos (gnames (g :: r)) s = 0 := by simp [gnames, pos, e]
      simp only [h1, List.getElem_cons_zero]
      simp [gOf, e]
    · have hs' : s ∈ gnames r := by
        rcases List.mem_cons.1 (show s ∈ g.name :: gnames r from h) with h | h
        · exact absurd h.symm e
        · exact h
      obtain ⟨h1, h2⟩ := ih hs'
      have h3 : pos (gnames (g :: r)) s = pos (gnames r) s + 1 := by simp [gnames, pos, e]
      refine ⟨by rw [h3]; simpa using h1, ?_⟩
      simp only [h3, List.getElem_cons_succ, h2]
      unfold gOf
      rw [List.find?_cons_of_neg (by simpa using e)]

set_option maxRecDepth 100000 in
theorem index_any (A : Option Addr) (n k : Nat) (gs : List Grp) (s : ByteArray) (w : World) (hA : Grps w A gs) (hn : gs.length = n) (hb : n ≤ 1048576) :
    Calls Try.prog 33 #[.slice A n k, .string s] w fun e w' => e = .returned (.int .i64 (gIdx gs s)) ∧ w = w' := by
  subst hn
  have HA := Lib.hid hA; clear hA
  have G0 := Lib.hid (gIdx_none (gs := gs) (s := s))
  have G1 := Lib.hid (fun i (hi : i < gs.length) (h : ∀ t, (ht : t < gs.length) → t < i → gs[t].name ≠ s) (e : gs[i].name = s) => show gIdx gs s = (i : Int) by
    rw [gIdx_some (by rw [← e]; exact List.mem_map.2 ⟨gs[i], List.getElem_mem hi, rfl⟩), pos_first (k := i) (by simpa [gnames] using hi) (fun t ht htk => by simpa [gnames] using h t (by simpa [gnames] using ht) htk) (by simpa [gnames] using e)])
  go_enter Try.func33, Try.ntmps33
  go_wp2
  go_loopw [5] (fun u wr => ∃ i : Nat, i ≤ gs.length ∧ u = .int .i64 i ∧ (∀ t, (ht : t < gs.length) → t < i → gs[t].name ≠ s) ∧ w = wr) (fun u _ => gs.length - (intOf u).toNat)
  case atStart => exact ⟨0, Nat.zero_le _, rfl, fun t _ h => by omega, rfl⟩
  case round =>
    obtain ⟨i, hi, rfl, hne, rfl⟩ := hrel
    have HNE := Lib.hid hne; clear hne
    by_cases hlt : i < gs.length
    · obtain ⟨b1, o1, rfl, hbl, hcell⟩ := HA.out.at hlt
      have c1 := (hcell i hlt).1
      have HB := Lib.hid (fun h => G1.out i hlt HNE.out h)
      have HN := Lib.hid (fun h => all_up (P := fun g => g.name ≠ s) hlt HNE.out h)
      clear hcell
      generalize gs[i].name = nm at *
      by_cases hq : nm = s
      · have q1 := str_eqT hq
        have HQ := Lib.hid (HB.out hq)
        clear hq HB HN
        go_wp2_with fail
        go_ret
        exact ⟨ret_int HQ.out.symm, rfl⟩
      · have q1 := str_eqF hq
        have HQ := Lib.hid (HN.out hq)
        clear hq HB HN
        go_wp2_with fail
        go_roundw
        case rel => exact ⟨i + 1, by omega, by go_num, HQ.out, trivial⟩
        case measure => simp [intOf]; omega
    · have HQ := Lib.hid (G0.out (fun h => by
        obtain ⟨g, hg, e⟩ := List.mem_map.1 h
        obtain ⟨t, ht, rfl⟩ := List.getElem_of_mem hg
        exact HNE.out t ht (by omega) e))
      go_wp2
      go_ret
      exact ⟨ret_int HQ.out.symm, rfl⟩

set_option maxRecDepth 100000 in
theorem has_any (A : Option Addr) (n k : Nat) (l : List ByteArray) (s : ByteArray) (w : World) (hA : Strs w A l) (hn : l.length = n) (hb : n ≤ 1048576) :
    Calls Try.prog 34 #[.slice A n k, .string s] w fun e w' => e = .returned (.bool (decide (s ∈ l))) ∧ w = w' := by
  subst hn
  have HA := Lib.hid hA; clear hA
  have G0 := Lib.hid (fun (h : s ∉ l) => show decide (s ∈ l) = false by simpa using h)
  have G1 := Lib.hid (fun (h : s ∈ l) => show decide (s ∈ l) = true by simpa using h)
  generalize hD : decide (s ∈ l) = D at *
  clear hD
  go_enter Try.func34, Try.ntmps34
  go_wp2
  go_loopw [5] (fun u wr => ∃ i : Nat, i ≤ l.length ∧ u = .int .i64 i ∧ (∀ t, (ht : t < l.length) → t < i → l[t] ≠ s) ∧ w = wr) (fun u _ => l.length - (intOf u).toNat)
  case atStart => exact ⟨0, Nat.zero_le _, rfl, fun t _ h => by omega, rfl⟩
  case round =>
    obtain ⟨i, hi, rfl, hne, rfl⟩ := hrel
    have HNE := Lib.hid hne; clear hne
    by_cases hlt : i < l.length
    · obtain ⟨b1, o1, rfl, hbl, hcell⟩ := HA.out.at hlt
      have c1 := hcell i hlt
      have HB := Lib.hid (fun (h : l[i] = s) => G1.out (h ▸ List.getElem_mem hlt))
      have HN := Lib.hid (fun h => all_up (P := fun x => x ≠ s) hlt HNE.out h)
      clear hcell
      generalize l[i] = nm at *
      by_cases hq : nm = s
      · have q1 := str_eqT hq
        obtain rfl := HB.out hq
        clear hq HB HN G0 G1
        go_wp2_with fail
        go_ret
        exact ⟨rfl, rfl⟩
      · have q1 := str_eqF hq
        have HQ := Lib.hid (HN.out hq)
        clear hq HB HN
        go_wp2_with fail
        go_roundw
        case rel => exact ⟨i + 1, by omega, by go_num, HQ.out, trivial⟩
        case measure => simp [intOf]; omega
    · obtain rfl := G0.out (fun h => by
        obtain ⟨t, ht, e⟩ := List.getElem_of_mem h
        exact HNE.out t ht (by omega) e)
      go_wp2
      go_ret
      exact ⟨rfl, rfl⟩

end Go.Proofs.Ytnfnoefjgiojoaa
