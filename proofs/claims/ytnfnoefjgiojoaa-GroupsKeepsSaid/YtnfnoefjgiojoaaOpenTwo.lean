/- How an argument that is a collation, names and two weights is opened. -/
import Derived.Test.YtnfnoefjgiojoaaOpenCol
import Derived.Test.YtnfnoefjgiojoaaLawsD
namespace Go.Proofs.Ytnfnoefjgiojoaa
open Go.ChangeShapes Go.WideShapes Go.ChangeAt Go.RowKit

section
variable {H : Type} {enc : TypeId × Value → H} {w : World} {base : Nat} {spare : Nat → Bool} {held : Bool} {fuel : Nat} {cs : List Value} {x : DataW H × List MemPlace}
set_option maxRecDepth 100000 in
theorem open_colF (hcl : cs.length = 5) (hf : DataW.trod enc Try.prog w base spare held fuel 25 cs = some x) :
    ∃ A n a B m b, ∃ c : Col, cs = [.slice A n a, .slice B m b, .int .i64 c.base, .int .i64 c.second, .int .i64 c.third] ∧ ColAt w A n B m c ∧ n ≤ a ∧ m ≤ b := by
  obtain ⟨xs, k, hk, hxy, _, hxl, hfs⟩ := DataW.trod_struct Try.underlying25 hf
  match xs, hxl, cs, hcl with
  | [y0, y1, y2, y3, y4], _, [v0, v1, v2, v3, v4], _ =>
    have g0 := hfs 0 _ rfl
    have g1 := hfs 1 _ rfl
    have g2 := hfs 2 _ rfl
    have g3 := hfs 3 _ rfl
    have g4 := hfs 4 _ rfl
    simp [ci, cN, cG] at g0 g1 g2 g3 g4
    obtain ⟨A, n, a, l0, e0, f0, q0, _, i0⟩ := open_ents g0
    obtain ⟨B, m, b, l1, e1, f1, q1, _, i1, s1⟩ := open_grps g1
    obtain ⟨z2, e2, _, _⟩ := DataW.trod_int Try.underlying3 g2
    obtain ⟨z3, e3, _, _⟩ := DataW.trod_int Try.underlying3 g3
    obtain ⟨z4, e4, _, _⟩ := DataW.trod_int Try.underlying3 g4
    simp at e0 e1 e2 e3 e4
    subst e0; subst e1; subst e2; subst e3; subst e4
    exact ⟨A, n, a, B, m, b, ⟨l0, l1, z2, z3, z4⟩, rfl, ⟨i0, i1, f0, f1, s1⟩, q0, q1⟩

theorem cC : Try.prog.cellsOf 25 = 5 := by kernel_rfl
theorem cS : Try.prog.cellsOf 26 = 1 := by kernel_rfl

set_option maxRecDepth 100000 in
theorem open_two {v : Value} {r : Reach} {b0 : Nat} {d : DataW H} {p : List MemPlace} (hok : Value.okWide Try.prog w r b0 38 v) (h : DataW.Trod enc Try.prog w base spare held 38 v d p) :
    ∃ A n a B m b, ∃ c : Col, ∃ N kn kc, ∃ names : List ByteArray, ∃ x y : Int, v = twoV A n a B m b c N kn kc x y ∧ ColAt w A n B m c ∧ Strs w N names ∧ names.length = kn ∧ ∀ s ∈ names, s.size ≤ 9223372036854775807 := by
  obtain ⟨fuel, hf⟩ := h
  obtain ⟨cs, rfl, _⟩ := okWide_struct Try.underlying38 hok
  obtain ⟨xs, k, hk, hxy, hcl, hxl, hfs⟩ := DataW.trod_struct Try.underlying38 hf
  have h5 : Try.prog.cellsOf 38 = 8 := by kernel_rfl
  rw [h5] at hcl
  obtain ⟨cs⟩ := cs
  simp only [Value.cells] at hcl hfs
  match xs, hxl, cs, hcl with
  | [y0, y1, y2, y3], _, [v0, v1, v2, v3, v4, v5, v6, v7], _ =>
    have g0 := hfs 0 _ rfl
    have g1 := hfs 1 _ rfl
    have g2 := hfs 2 _ rfl
    have g3 := hfs 3 _ rfl
    simp [ci, cC, cS] at g0 g1 g2 g3
    obtain ⟨A, n, a, B, m, b, c, e0, f0, _, _⟩ := open_colF rfl g0
    obtain ⟨N, kn, kc, l1, e1, f1, _, _, i1, s1⟩ := open_strs' g1
    obtain ⟨z2, e2, _, _⟩ := DataW.trod_int Try.underlying3 g2
    obtain ⟨z3, e3, _, _⟩ := DataW.trod_int Try.underlying3 g3
    simp at e0 e1 e2 e3
    obtain ⟨rfl, rfl, rfl, rfl, rfl⟩ := e0
    subst e1; subst e2; subst e3
    exact ⟨A, n, a, B, m, b, c, N, kn, kc, l1, z2, z3, rfl, f0, i1, f1, s1⟩
end
end Go.Proofs.Ytnfnoefjgiojoaa
