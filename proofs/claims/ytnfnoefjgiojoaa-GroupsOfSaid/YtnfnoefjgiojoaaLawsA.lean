/- The walk of the law GroupsOrders. -/
import Derived.Test.YtnfnoefjgiojoaaAlive
namespace Go.Proofs.Ytnfnoefjgiojoaa
open Go.RowKit Go.Maps Go.WideMaps

/-- true is returned, nothing that was there has changed -/
def RetT (w : World) (e : Ending) (w' : World) : Prop := e = .returned (.bool true) ∧ Below w.heap.size w w'

theorem few_sz {c : Col} {names : List ByteArray} (h : fewC c names = true) : ColSz c ∧ c.grps.length ≤ 8 ∧ names.length ≤ 12 := by
  unfold fewC at h
  simp only [Bool.and_eq_true, decide_eq_true_eq] at h
  obtain ⟨h1, h2, _⟩ := small_sz h.1
  exact ⟨h1, h2, h.2⟩

set_option maxRecDepth 100000 in
set_option maxHeartbeats 3200000 in
theorem GroupsOrders_any (A : Option Addr) (n a : Nat) (B : Option Addr) (m b : Nat) (c : Col) (N : Option Addr) (kn kc : Nat) (names : List ByteArray) (w : World) (h : ColAt w A n B m c)
    (hN : Strs w N names) (hkn : names.length = kn) (hkc : kn ≤ kc) (hns : ∀ s ∈ names, s.size ≤ 9223372036854775807) :
    Calls Try.prog 3 #[colV A n a B m b c, .slice N kn kc] w (RetT w) := by
  have B0 : Below w.heap.size w (w.alloc (.cells #[.slice A n a, .slice B m b, .int .i64 c.base, .int .i64 c.second, .int .i64 c.third] 25)) := (Below.refl _ _).alloc (Nat.le_refl _) _
  have k0 : (w.alloc (.cells #[.slice A n a, .slice B m b, .int .i64 c.base, .int .i64 c.second, .int .i64 c.third] 25)).cell? ⟨w.heap.size, 0, none⟩ = some (.slice A n a) := by simp
  have k1 : (w.alloc (.cells #[.slice A n a, .slice B m b, .int .i64 c.base, .int .i64 c.second, .int .i64 c.third] 25)).cell? ⟨w.heap.size, 1, none⟩ = some (.slice B m b) := by simp
  have k2 : (w.alloc (.cells #[.slice A n a, .slice B m b, .int .i64 c.base, .int .i64 c.second, .int .i64 c.third] 25)).cell? ⟨w.heap.size, 2, none⟩ = some (.int .i64 c.base) := by simp
  have k3 : (w.alloc (.cells #[.slice A n a, .slice B m b, .int .i64 c.base, .int .i64 c.second, .int .i64 c.third] 25)).cell? ⟨w.heap.size, 3, none⟩ = some (.int .i64 c.second) := by simp
  have k4 : (w.alloc (.cells #[.slice A n a, .slice B m b, .int .i64 c.base, .int .i64 c.second, .int .i64 c.third] 25)).cell? ⟨w.heap.size, 4, none⟩ = some (.int .i64 c.third) := by simp
  have s0 : (w.alloc (.cells #[.slice A n a, .slice B m b, .int .i64 c.base, .int .i64 c.second, .int .i64 c.third] 25)).heap.size = w.heap.size + 1 := by simp
  have W0E : ∃ W0, w.alloc (.cells #[.slice A n a, .slice B m b, .int .i64 c.base, .int .i64 c.second, .int .i64 c.third] 25) = W0 := ⟨_, rfl⟩
  have FC := Lib.hid (fun W (hb : Below w.heap.size w W) => few_any A n a B m b c N kn kc names W (h.below hb) hkn)
  have OC := Lib.hid (fun W (hb : Below w.heap.size w W) (hf : fewC c names = true) => Order_any A n a B m b c N kn kc names W (h.below hb) (few_sz hf).1 (by have := (few_sz hf).2.1; have := h.hm; omega) (hN.below hb) hkn (by have := (few_sz hf).2.2; omega) hns)
  have RC := Lib.hid (fun W (hb : Below w.heap.size w W) (hf : fewC c names = true) => refOrder_any A n a B m b c N kn kc names W (h.below hb) (few_sz hf).1 (by have := (few_sz hf).2.1; have := h.hm; omega) (hN.below hb) hkn (by have := (few_sz hf).2.2; omega) hkc)
  have OL := Lib.hid (fun (hf : fewC c names = true) => show (ordOut c names).length ≤ 1048576 by
    unfold ordOut
    split
    · rename_i h0; rw [(ordF h0).len]; have := (few_sz hf).2.1; omega
    · exact Nat.zero_le _)
  unfold colV at *
  clear h hN hns
  go_enter Try.func3, Try.ntmps3
  go_wp2_with fail
  obtain ⟨W0, hW0⟩ := W0E
  rw [hW0] at B0 s0 k0 k1 k2 k3 k4 ⊢
  clear hW0
  refine (FC.out W0 B0).mono ?_
  rintro e W1 ⟨rfl, hb1⟩
  have hx0 : w.heap.size < W0.heap.size := by omega
  have hb2 := B0.trans (hb1.mono B0.size)
  have f0 := (hb1.cell (p := ⟨w.heap.size, 0, none⟩) hx0).trans k0
  have f1 := (hb1.cell (p := ⟨w.heap.size, 1, none⟩) hx0).trans k1
  have f2 := (hb1.cell (p := ⟨w.heap.size, 2, none⟩) hx0).trans k2
  have f3 := (hb1.cell (p := ⟨w.heap.size, 3, none⟩) hx0).trans k3
  have f4 := (hb1.cell (p := ⟨w.heap.size, 4, none⟩) hx0).trans k4
  have hx1 : w.heap.size < W1.heap.size := by have := hb1.size; omega
  clear k0 k1 k2 k3 k4 FC B0 hb1 s0 hx0
  cases hf : fewC c names with
  | false =>
    clear OC RC OL
    go_wp2_with fail
    refine (alive_any W1).mono ?_
    rintro e W2 ⟨rfl, hb3⟩
    go_wp2_with fail
    go_ret
    exact ⟨rfl, hb2.trans (hb3.mono hb2.size)⟩
  | true =>
    have OC := Lib.hid (fun W hb => OC.out W hb hf)
    have RC := Lib.hid (fun W hb => RC.out W hb hf)
    have ol := OL.out hf
    clear hf OL
    generalize ordOut c names = og at *
    generalize ordErr c names = er at *
    go_wp2_with fail
    refine (OC.out W1 hb2).mono ?_
    rintro e W2 ⟨A2, c2, rfl, hc2, hG2, hb3⟩
    have hb4 := hb2.trans (hb3.mono hb2.size)
    have g0 := (hb3.cell (p := ⟨w.heap.size, 0, none⟩) hx1).trans f0
    have g1 := (hb3.cell (p := ⟨w.heap.size, 1, none⟩) hx1).trans f1
    have g2 := (hb3.cell (p := ⟨w.heap.size, 2, none⟩) hx1).trans f2
    have g3 := (hb3.cell (p := ⟨w.heap.size, 3, none⟩) hx1).trans f3
    have g4 := (hb3.cell (p := ⟨w.heap.size, 4, none⟩) hx1).trans f4
    have hx2 : w.heap.size < W2.heap.size := by have := hb3.size; omega
    have HG2 := Lib.hid hG2
    clear f0 f1 f2 f3 f4 OC hb2 hb3 hG2 hx1
    go_wp2_with fail
    refine (RC.out W2 hb4).mono ?_
    rintro e W3 ⟨A3, c3, rfl, hc3, hG3, hb5⟩
    have hb6 := hb4.trans (hb5.mono hb4.size)
    have SG := Lib.hid (sameG_any A2 og.length c2 A3 og.length c3 og og W3 (HG2.out.below hb5) hG3 rfl rfl ol ol)
    clear g0 g1 g2 g3 g4 RC hb4 hb5 hG3 HG2 hx2
    rw [decide_eq_true rfl] at SG
    go_wp2_with fail
    refine SG.out.mono ?_
    rintro e W4 ⟨rfl, hq⟩
    have hb7 := hb6.trans (hq.below.mono hb6.size)
    clear SG hq
    go_wp2_with fail
    refine (alive_any W4).mono ?_
    rintro e W5 ⟨rfl, hb8⟩
    go_wp2_with fail
    go_ret
    exact ⟨rfl, hb7.trans (hb8.mono hb7.size)⟩

end Go.Proofs.Ytnfnoefjgiojoaa
