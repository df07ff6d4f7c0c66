/- Contracts of ordering.class$1, BinarySearchFunc at spans, and ordering.class: the class of a number in valid spans. -/
import Derived.Test.YthagfcdleapooaaDoorProg
import Derived.Test.YthagfcdleapooaaDoorSpans
import Derived.Outline
namespace Go.Proofs.YthagfcdleapooaaDoor
open Go.RowKit

/-- an int is returned; nothing that was there has changed -/
def RetInt (x : Int) (w : World) (e : Ending) (w' : World) : Prop := e = .returned (.int .i64 x) ∧ Below w.heap.size w w'

/-- how a span compares with a number -/
def scmp (lo hi c : Int) : Int := if hi < c then -1 else if c < lo then 1 else 0

theorem classF_any (lo hi v c : Int) (w : World) : Calls Tryd.prog 46 #[.agg #[.int .i64 lo, .int .i64 hi, .int .i64 v], .int .i64 c] w (RetInt (scmp lo hi c) w) := by
  unfold scmp
  by_cases h1 : hi < c
  · rw [if_pos h1]
    go_enter Tryd.func46, Tryd.ntmps46
    go_wp2
    go_ret
    exact ⟨rfl, (Below.refl _ _).alloc (Nat.le_refl _) _⟩
  · rw [if_neg h1]
    by_cases h2 : c < lo
    · rw [if_pos h2]
      go_enter Tryd.func46, Tryd.ntmps46
      go_wp2
      go_ret
      exact ⟨rfl, (Below.refl _ _).alloc (Nat.le_refl _) _⟩
    · rw [if_neg h2]
      go_enter Tryd.func46, Tryd.ntmps46
      go_wp2
      go_ret
      exact ⟨rfl, (Below.refl _ _).alloc (Nat.le_refl _) _⟩

/-- what the search finds: the first span whose end is not below c -/
def Srch (ss : List Spn) (c : Int) (i : Nat) (found : Bool) : Prop :=
  i ≤ ss.length ∧ (∀ t, (ht : t < ss.length) → t < i → ss[t].hi < c) ∧ (∀ t, (ht : t < ss.length) → i ≤ t → c ≤ ss[t].hi) ∧ found = decide (∃ h : i < ss.length, ss[i].lo ≤ c)

def RetSrch (ss : List Spn) (c : Int) (w : World) (e : Ending) (w' : World) : Prop := ∃ (i : Nat) (f : Bool), e = .returned (.tuple #[.int .i64 i, .bool f]) ∧ Srch ss c i f ∧ Below w.heap.size w w'

set_option maxHeartbeats 1600000 in
theorem bsearch_any (A : Option Addr) (n k : Nat) (ss : List Spn) (c : Int) (w : World) (hA : Spans w A ss) (hn : ss.length = n) (hbig : n ≤ 1099511627776) (hasc : Asc ss) :
    Calls Tryd.prog 45 #[.slice A n k, .int .i64 c, .func (.func 46) #[] #[]] w (RetSrch ss c w) := by
  subst hn
  have HS := Lib.hid hasc; clear hasc
  go_enter Tryd.func45, Tryd.ntmps45
  go_wp2
  go_loopw [9, 10] (fun u v wr => ∃ i j : Nat, i ≤ j ∧ j ≤ ss.length ∧ u = .int .i64 i ∧ v = .int .i64 j ∧ (∀ t, (ht : t < ss.length) → t < i → ss[t].hi < c) ∧ (∀ t, (ht : t < ss.length) → j ≤ t → c ≤ ss[t].hi) ∧ Below w.heap.size w wr)
    (fun u v _ => (intOf v).toNat - (intOf u).toNat)
  case atStart => exact ⟨0, ss.length, Nat.zero_le _, Nat.le_refl _, rfl, rfl, fun t _ h => by omega, fun t h1 h2 => by omega, Below.refl _ _⟩
  case round =>
    obtain ⟨i, j, hij, hj, rfl, rfl, hlo, hhi, hbel⟩ := hrel
    have HLO := Lib.hid hlo; have HHI := Lib.hid hhi; clear hlo hhi
    by_cases hlt : i < j
    · obtain ⟨h, hh, h1, h2, h3⟩ : ∃ h : Nat, ((i : Int) + (j : Int)) / 2 = (h : Int) ∧ i ≤ h ∧ h < j ∧ h < ss.length := ⟨(i + j) / 2, by omega, by omega, by omega, by omega⟩
      obtain ⟨b, o, rfl, _, hcell⟩ := (hA.below hbel).at h3
      obtain ⟨c1, c2, c3⟩ := hcell h h3
      clear hcell
      have HO := Lib.hid (fun t (ht : t < ss.length) (hth : t < h) => (HS.out t h ht h3).2 hth)
      have HO2 := Lib.hid (fun t (ht : t < ss.length) (hth : h < t) => (HS.out h t h3 ht).2 hth)
      have HO3 := Lib.hid (fun t (ht : t < ss.length) => (HS.out t t ht ht).1)
      have HO4 := Lib.hid (HS.out h h h3 h3).1
      generalize hlo : ss[h].lo = lo at *
      generalize hhi : ss[h].hi = hi at *
      generalize ss[h].val = v at *
      have E1 := Lib.hid hlo; have E2 := Lib.hid hhi
      have C := Lib.hid (classF_any lo hi v c)
      clear hlo hhi
      by_cases hk : hi < c
      · have hsc : scmp lo hi c = -1 := by unfold scmp; rw [if_pos hk]
        rw [hsc] at C; clear hsc
        go_wp2_with (go_at_call 46; refine (C.out _).mono ?_; rintro e w1 ⟨rfl, hb1⟩)
        go_roundw
        case rel =>
          refine ⟨h + 1, j, by omega, hj, by go_num, rfl, fun t ht g => ?_, HHI.out, hbel.trans (hb1.mono hbel.size)⟩
          by_cases e : t = h
          · subst e; rw [E2.out]; exact hk
          · have a1 := HO.out t ht (by omega)
            have a2 := HO4.out
            omega
        case measure => simp [intOf]; omega
      · have hsc : 0 ≤ scmp lo hi c := by unfold scmp; rw [if_neg hk]; split <;> omega
        generalize scmp lo hi c = sc at *
        go_wp2_with (go_at_call 46; refine (C.out _).mono ?_; rintro e w1 ⟨rfl, hb1⟩)
        go_roundw
        case rel =>
          refine ⟨i, h, h1, by omega, rfl, rfl, HLO.out, fun t ht g => ?_, hbel.trans (hb1.mono hbel.size)⟩
          by_cases e : t = h
          · subst e; rw [E2.out]; omega
          · have a1 := HO2.out t ht (by omega)
            have a2 := HO3.out t ht
            omega
        case measure => simp [intOf]; omega
    · obtain rfl : i = j := by omega
      by_cases hend : i < ss.length
      · obtain ⟨b, o, rfl, _, hcell⟩ := (hA.below hbel).at hend
        obtain ⟨c1, c2, c3⟩ := hcell i hend
        clear hcell
        have hci := HHI.out i hend (Nat.le_refl _)
        have HF := Lib.hid (show decide (∃ h : i < ss.length, ss[i].lo ≤ c) = (scmp ss[i].lo ss[i].hi c == 0) by
          rw [Bool.eq_iff_iff]; simp only [decide_eq_true_eq, beq_iff_eq]; unfold scmp; rw [if_neg (by omega)]; split
          · constructor
            · rintro ⟨_, h⟩; omega
            · intro h; omega
          · exact ⟨fun _ => rfl, fun _ => ⟨hend, by omega⟩⟩)
        clear hci
        generalize ss[i].lo = lo at *
        generalize ss[i].hi = hi at *
        generalize ss[i].val = v at *
        have C := Lib.hid (classF_any lo hi v c)
        generalize scmp lo hi c = sc at *
        go_wp2_with (go_at_call 46; refine (C.out _).mono ?_; rintro e w1 ⟨rfl, hb1⟩)
        go_ret2
        refine ⟨i, _, rfl, ⟨hj, HLO.out, HHI.out, ?_⟩, hbel.trans (hb1.mono hbel.size)⟩
        exact HF.out.symm
      · go_wp2_with fail
        go_ret2
        refine ⟨i, _, rfl, ⟨hj, HLO.out, HHI.out, ?_⟩, hbel⟩
        simp [hend]

theorem Srch.cls {ss : List Spn} {c : Int} {i : Nat} {f : Bool} (h : Srch ss c i f) (hasc : Asc ss) : if f = true then ∃ hi : i < ss.length, Go.Proofs.YthagfcdleapooaaDoor.cls ss c = ss[i].val else Go.Proofs.YthagfcdleapooaaDoor.cls ss c = 0 := by
  obtain ⟨h1, h2, h3, h4⟩ := h
  by_cases e : ∃ g : i < ss.length, ss[i].lo ≤ c
  · rw [if_pos (by rw [h4]; simpa using e)]
    obtain ⟨g, hg⟩ := e
    exact ⟨g, cls_at ss c i g hasc hg (h3 i g (Nat.le_refl _))⟩
  · rw [if_neg (by rw [h4]; simpa using e)]
    refine cls_none ss c fun t ht hc => ?_
    by_cases e1 : t < i
    · have := h2 t ht e1; omega
    · by_cases e2 : t = i
      · subst e2; exact e ⟨ht, hc.1⟩
      · have hi : i < ss.length := by omega
        have a1 := (hasc i t hi ht).2 (by omega)
        have a2 := (hasc i i hi hi).1
        exact e ⟨hi, by omega⟩

set_option maxHeartbeats 400000 in
theorem class_any (A : Option Addr) (n k : Nat) (ss : List Spn) (c : Int) (w : World) (hA : Spans w A ss) (hn : ss.length = n) (hbig : n ≤ 1099511627776) (hasc : Asc ss) :
    Calls Tryd.prog 36 #[.slice A n k, .int .i64 c] w (RetInt (cls ss c) w) := by
  subst hn
  have C := Lib.hid (bsearch_any A ss.length k ss c w hA rfl hbig hasc)
  have HS := Lib.hid hasc
  clear hasc
  go_enter Tryd.func36, Tryd.ntmps36
  go_wp2_with fail
  refine C.out.mono ?_
  rintro e w1 ⟨i, f, rfl, hs, hb1⟩
  have h := hs.cls HS.out
  cases f with
  | true =>
    rw [if_pos rfl] at h
    obtain ⟨hi, hcls⟩ := h
    obtain ⟨b, o, rfl, _, hcell⟩ := (hA.below hb1).at hi
    obtain ⟨c1, c2, c3⟩ := hcell i hi
    have HC := Lib.hid hcls
    clear hcell hs hcls
    generalize ss[i].val = v at *
    go_wp2_with fail
    go_ret
    exact ⟨ret_int HC.out.symm, hb1⟩
  | false =>
    rw [if_neg (by simp)] at h
    have HC := Lib.hid h
    clear hs h
    go_wp2_with fail
    go_ret
    exact ⟨ret_int HC.out.symm, hb1⟩

end Go.Proofs.YthagfcdleapooaaDoor
