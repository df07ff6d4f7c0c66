/- The contracts of groups.containing, mover's function, mover and Move. -/
import Derived.Test.YtnfnoefjgiojoaaMovPlain
namespace Go.Proofs.Ytnfnoefjgiojoaa
open Go.RowKit Go.Maps Go.WideMaps

def conV (r : Option Grp) : Value := match r with | some g => .tuple #[gv g, .bool true] | none => .tuple #[.agg #[.string .empty, .int .i64 0, .int .i64 0], .bool false]
def RetCon (r : Option Grp) (w : World) (e : Ending) (w' : World) : Prop := e = .returned (conV r) ∧ Below w.heap.size w w'

theorem results_con (tmps : Array Value) (w : World) {b : Nat} {s : ByteArray} {lo hi : Int} (ha : tmps.getD 4 undef = .pointer (some ⟨b, 0, none⟩))
    (c0 : w.cell? ⟨b, 0, none⟩ = some (.string s)) (c1 : w.cell? ⟨b, 1, none⟩ = some (.int .i64 lo)) (c2 : w.cell? ⟨b, 2, none⟩ = some (.int .i64 hi)) :
    (results Try.f45 tmps).run Try.prog w = .ok (.tuple #[.agg #[.string s, .int .i64 lo, .int .i64 hi], tmps.getD 5 undef]) w := by
  have hr : Try.f45.results = #[.cell 4 36, .tmp 5] := rfl
  unfold results
  rw [hr]
  simp only [ha, List.mapM_toArray, List.mapM_cons, List.mapM_nil, asAddr]
  go_simp

set_option maxRecDepth 100000 in
set_option maxHeartbeats 3200000 in
theorem containing_any (A : Option Addr) (n k : Nat) (gs : List Grp) (x : Int) (w : World) (hA : Grps w A gs) (hn : gs.length = n) (hb : n ≤ 1048576) :
    Calls Try.prog 45 #[.slice A n k, .int .i64 x] w (RetCon (conG gs x) w) := by
  subst hn
  have C1 := Lib.hid (fun k hk h hb => conG_at (gs := gs) (x := x) (k := k) hk h hb)
  have C0 := Lib.hid (conG_none (gs := gs) (x := x))
  generalize conG gs x = r at *
  have HA := Lib.hid hA; clear hA
  go_enter Try.func45, Try.ntmps45
  go_wp2
  have B0 : Below w.heap.size w (w.alloc (.cells #[.string ⟨#[]⟩, .int .i64 0, .int .i64 0] 36)) := (Below.refl _ _).alloc (Nat.le_refl _) _
  have s0 : (w.alloc (.cells #[.string ⟨#[]⟩, .int .i64 0, .int .i64 0] 36)).heap.size = w.heap.size + 1 := by simp
  have k0 : (w.alloc (.cells #[.string ⟨#[]⟩, .int .i64 0, .int .i64 0] 36)).cell? ⟨w.heap.size, 0, none⟩ = some (.string ⟨#[]⟩) := by simp
  have k1 : (w.alloc (.cells #[.string ⟨#[]⟩, .int .i64 0, .int .i64 0] 36)).cell? ⟨w.heap.size, 1, none⟩ = some (.int .i64 0) := by simp
  have k2 : (w.alloc (.cells #[.string ⟨#[]⟩, .int .i64 0, .int .i64 0] 36)).cell? ⟨w.heap.size, 2, none⟩ = some (.int .i64 0) := by simp
  have kf : ∀ j, (w.alloc (.cells #[.string ⟨#[]⟩, .int .i64 0, .int .i64 0] 36)).frozen? ⟨w.heap.size, j, none⟩ = false := fun j => by simp
  obtain ⟨W0, hW0⟩ : ∃ W0, w.alloc (.cells #[.string ⟨#[]⟩, .int .i64 0, .int .i64 0] 36) = W0 := ⟨_, rfl⟩
  rw [hW0] at B0 s0 k0 k1 k2 kf ⊢
  clear hW0
  have hx0 : w.heap.size < W0.heap.size := by omega
  have HG0 := Lib.hid (HA.out.below B0)
  have K := Lib.hid (And.intro k0 (And.intro k1 (And.intro k2 kf)))
  clear k0 k1 k2 kf s0 HA
  go_loopw [7, 10] (fun _ u wr => ∃ i : Nat, i ≤ gs.length ∧ u = .int .i64 i ∧ (∀ t, (ht : t < gs.length) → t < i → inR gs[t].lo gs[t].hi x = false) ∧ Below W0.heap.size W0 wr) (fun _ u _ => gs.length - (intOf u).toNat)
  case atStart => exact ⟨0, Nat.zero_le _, rfl, fun t _ h => by omega, Below.refl _ _⟩
  case round =>
    obtain ⟨i, hi, rfl, hne, hb⟩ := hrel
    have HNE := Lib.hid hne; clear hne
    have k0 := (hb.cell (p := ⟨w.heap.size, 0, none⟩) hx0).trans K.out.1
    have k1 := (hb.cell (p := ⟨w.heap.size, 1, none⟩) hx0).trans K.out.2.1
    have k2 := (hb.cell (p := ⟨w.heap.size, 2, none⟩) hx0).trans K.out.2.2.1
    have kf0 := (hb.frozen (p := ⟨w.heap.size, 0, none⟩) hx0).trans (K.out.2.2.2 0)
    have kf1 := (hb.frozen (p := ⟨w.heap.size, 1, none⟩) hx0).trans (K.out.2.2.2 1)
    have kf2 := (hb.frozen (p := ⟨w.heap.size, 2, none⟩) hx0).trans (K.out.2.2.2 2)
    have hx1 : w.heap.size < wr.heap.size := by have := hb.size; omega
    have hx2 : ¬ w.heap.size = wr.heap.size := by omega
    have hx3 : ¬ wr.heap.size = w.heap.size := by omega
    have BW := Lib.hid (B0.trans (hb.mono B0.size))
    by_cases hlt : i < gs.length
    · obtain ⟨b1, o1, rfl, hbl, hcell⟩ := (HG0.out.below hb).at hlt
      obtain ⟨c1, c2, c3⟩ := hcell i hlt
      have HB := Lib.hid (fun h => C1.out i hlt h HNE.out)
      have HN := Lib.hid (fun h => all_up (P := fun g => inR g.lo g.hi x = false) hlt HNE.out h)
      clear hcell
      generalize gs[i] = gi at *
      obtain ⟨xn, xlo, xhi⟩ := gi
      dsimp only at *
      by_cases h1 : xlo ≤ x
      · by_cases h2 : x ≤ xhi
        · obtain rfl := HB.out (inR_true h1 h2)
          have q1 : decide (xlo ≤ x) = true := by simpa using h1
          have q2 : decide (x ≤ xhi) = true := by simpa using h2
          clear HB HN C1 C0
          go_wp2_with fail
          (try simp only [Exit.inBlock, Exit.then]); refine bodyPost_ret (results_con _ _ (b := w.heap.size) (s := xn) (lo := xlo) (hi := xhi) rfl (by go_simp) (by go_simp) (by go_simp)) rfl ?_
          refine ⟨rfl, ?_⟩
          have H := ((BW.out.setCell (p := ⟨w.heap.size, 0, none⟩) (Nat.le_refl _) (.string xn)).setCell (p := ⟨w.heap.size, 1, none⟩) (Nat.le_refl _) (.int .i64 xlo)).setCell (p := ⟨w.heap.size, 2, none⟩) (Nat.le_refl _) (.int .i64 xhi)
          exact H.alloc H.size _
        · have HQ := Lib.hid (HN.out (inR_hi (by omega)))
          have q1 : decide (xlo ≤ x) = true := by simpa using h1
          have q2 : decide (x ≤ xhi) = false := by simpa using h2
          clear HB HN C1 C0
          go_wp2_with fail
          go_roundw
          case rel => exact ⟨i + 1, by omega, by go_num, HQ.out, hb.alloc hb.size _⟩
          case measure => simp [intOf]; omega
      · have HQ := Lib.hid (HN.out (inR_lo (by omega)))
        have q1 : decide (xlo ≤ x) = false := by simpa using h1
        clear HB HN C1 C0
        go_wp2_with fail
        go_roundw
        case rel => exact ⟨i + 1, by omega, by go_num, HQ.out, hb.alloc hb.size _⟩
        case measure => simp [intOf]; omega
    · obtain rfl := C0.out (fun t ht => HNE.out t ht (by omega))
      go_wp2
      (try simp only [Exit.inBlock, Exit.then]); refine bodyPost_ret (results_con _ _ (b := w.heap.size) (s := ⟨#[]⟩) (lo := 0) (hi := 0) rfl (by go_simp) (by go_simp) (by go_simp)) rfl ?_
      refine ⟨rfl, ?_⟩
      exact ((BW.out.setCell (p := ⟨w.heap.size, 0, none⟩) (Nat.le_refl _) _).setCell (p := ⟨w.heap.size, 1, none⟩) (Nat.le_refl _) _).setCell (p := ⟨w.heap.size, 2, none⟩) (Nat.le_refl _) _

end Go.Proofs.Ytnfnoefjgiojoaa
