/- Groups compared: SameGroups and the index of a weight's group; and what is small: Small, few. -/
import Derived.Test.YtnfnoefjgiojoaaMove2
import Derived.Laws.StructEq
namespace Go.Proofs.Ytnfnoefjgiojoaa
open Go.RowKit Go.Maps Go.WideMaps

theorem neq_grp (s t : ByteArray) (a b c d : Int) (w : World) : (binOp .neq 36 (.agg #[.string s, .int .i64 a, .int .i64 b]) (.agg #[.string t, .int .i64 c, .int .i64 d])).run Try.prog w = .ok (.bool (!decide ((⟨s, a, b⟩ : Grp) = ⟨t, c, d⟩))) w := by
  have u3 := Try.underlying3
  have a3 := Try.isAgg3
  have z3 := Try.sizeOf3
  have u9 := Try.underlying9
  have a9 := Try.isAgg9
  have z9 := Try.sizeOf9
  have hS : Try.prog.underlying 36 = some (.struct (Try.prog.fieldsOf 36)) := by kernel_rfl
  have hp : Try.prog.stoodInHeld 36 = false := by kernel_rfl
  rw [run_neq_struct, show (10000 : Nat) = 9999 + 1 from rfl, run_equalIn_agg w 9999 36 _ _ hS hp]
  simp only [Program.fieldsOf, Try.underlying36]
  go_simp
  by_cases h1 : s = t
  · subst h1
    by_cases h2 : a = c <;> by_cases h3 : b = d <;> simp [h2, h3]
  · have h0 : ¬ s.toList = t.toList := by simpa using str_eqF h1
    simp [h0, h1]

theorem lists_eq {α : Type} {xs ys : List α} (hl : xs.length = ys.length) (h : ∀ t, (h1 : t < xs.length) → (h2 : t < ys.length) → xs[t] = ys[t]) : xs = ys := List.ext_getElem hl h

set_option maxRecDepth 100000 in
set_option maxHeartbeats 3200000 in
theorem sameG_any (A : Option Addr) (n a : Nat) (B : Option Addr) (m b : Nat) (xs ys : List Grp) (w : World) (hA : Grps w A xs) (hB : Grps w B ys) (hn : xs.length = n) (hm : ys.length = m) (hb : n ≤ 1048576) (hb2 : m ≤ 1048576) :
    Calls Try.prog 15 #[.slice A n a, .slice B m b] w fun e w' => e = .returned (.bool (decide (xs = ys))) ∧ Qt w w' := by
  subst hn
  subst hm
  have R1 := Lib.hid (fun (h : xs = ys) => show decide (xs = ys) = true by simpa using h)
  have R0 := Lib.hid (fun (h : ¬ xs = ys) => show decide (xs = ys) = false by simpa using h)
  generalize hr : decide (xs = ys) = r at *
  clear hr
  have HA := Lib.hid hA; have HB := Lib.hid hB
  have hg : Try.prog.eqGuardType Try.prog.depth 36 = false := by kernel_rfl
  have hneq := neq_grp
  clear hA hB
  go_enter Try.func15, Try.ntmps15
  by_cases hl : xs.length = ys.length
  · have q1 : ((xs.length : Int) != (ys.length : Int)) = false := by simp [hl]
    have HL := Lib.hid hl
    clear hl
    go_wp2_with fail
    go_loopw [5] (fun u wr => ∃ i : Nat, i ≤ xs.length ∧ u = .int .i64 i ∧ (∀ t, (h1 : t < xs.length) → (h2 : t < ys.length) → t < i → xs[t] = ys[t]) ∧ Qt w wr) (fun u _ => xs.length - (intOf u).toNat)
    case atStart => exact ⟨0, Nat.zero_le _, rfl, fun t _ _ h => by omega, Qt.refl _⟩
    case round =>
      obtain ⟨i, hi, rfl, hne, hq⟩ := hrel
      have HNE := Lib.hid hne; clear hne
      by_cases hlt : i < xs.length
      · have hlt2 : i < ys.length := by have := HL.out; omega
        obtain ⟨b1, o1, rfl, hbl, hcell⟩ := (HA.out.below hq.below).at hlt
        obtain ⟨c1, c2, c3⟩ := hcell i hlt
        obtain ⟨b2, o2, rfl, hbl2, hcell2⟩ := (HB.out.below hq.below).at hlt2
        obtain ⟨d1, d2, d3⟩ := hcell2 i hlt2
        have HN := Lib.hid (fun (h : xs[i] = ys[i]) t (h1 : t < xs.length) (h2 : t < ys.length) (ht : t < i + 1) => show xs[t] = ys[t] by
          rcases Nat.lt_or_ge t i with g | g
          · exact HNE.out t h1 h2 g
          · obtain rfl : t = i := by omega
            exact h)
        have HY := Lib.hid (fun (h : ¬ xs[i] = ys[i]) => R0.out (fun e => h (by simp only [e])))
        have q2 : (i : Int) < (ys.length : Int) := by omega
        clear hcell hcell2 HNE R0 R1
        generalize xs[i] = gx at *
        generalize ys[i] = gy at *
        obtain ⟨xn, xlo, xhi⟩ := gx
        obtain ⟨yn, ylo, yhi⟩ := gy
        dsimp only at *
        by_cases he : (⟨xn, xlo, xhi⟩ : Grp) = ⟨yn, ylo, yhi⟩
        · have q3 : decide ((⟨xn, xlo, xhi⟩ : Grp) = ⟨yn, ylo, yhi⟩) = true := by simpa using he
          have HQ := Lib.hid (HN.out he)
          have hneq1 := fun W => hneq xn yn xlo xhi ylo yhi W
          rw [q3] at hneq1
          clear he HN HY hneq q3
          go_wp2_with fail
          go_quiet (fail)
          go_wp2_with fail
          go_roundw
          case rel => exact ⟨i + 1, by omega, by go_num, HQ.out, hq.drewN _⟩
          case measure => simp [intOf]; omega
        · have q3 : decide ((⟨xn, xlo, xhi⟩ : Grp) = ⟨yn, ylo, yhi⟩) = false := by simpa using he
          obtain rfl := HY.out he
          have hneq1 := fun W => hneq xn yn xlo xhi ylo yhi W
          rw [q3] at hneq1
          clear he HN HY hneq q3
          go_wp2_with fail
          go_quiet (fail)
          go_wp2_with fail
          go_ret
          exact ⟨rfl, hq.drewN _⟩
      · obtain rfl := R1.out (lists_eq HL.out fun t h1 h2 => HNE.out t h1 h2 (by omega))
        go_wp2_with fail
        go_ret
        exact ⟨rfl, hq⟩
  · have q1 : ((xs.length : Int) != (ys.length : Int)) = true := by simp; omega
    obtain rfl := R0.out (fun e => hl (by rw [e]))
    clear hl R0 R1
    go_wp2_with fail
    go_ret
    exact ⟨rfl, Qt.refl _⟩

end Go.Proofs.Ytnfnoefjgiojoaa
