/- How an argument that is the data of case mapping is opened. -/
import Derived.Test.YtpamkbbmbeeheaaOpenMap
import Derived.Test.YtpamkbbmbeeheaaCaseS
namespace Go.Proofs.Ytpamkbbmbeeheaa
open Go.ChangeShapes Go.WideShapes Go.ChangeAt Go.RowKit

section
variable {H : Type} {enc : TypeId × Value → H} {w : World} {base : Nat} {spare : Nat → Bool} {held : Bool}
set_option maxRecDepth 100000 in
theorem open_case {v : Value} {r : Reach} {b0 : Nat} {d : DataW H} {p : List MemPlace} (hok : Value.okWide Try.prog w r b0 27 v) (h : DataW.Trod enc Try.prog w base spare held 27 v d p) :
    ∃ v0 v1 v2 v3 v4 v5, ∃ C : Cse, v = .agg #[v0, v1, v2, v3, v4, v5] ∧ CaseAt w v0 v1 v2 v3 v4 v5 C ∧ CaseLn C := by
  obtain ⟨fuel, hf⟩ := h
  obtain ⟨cs, rfl, _⟩ := okWide_struct Try.underlying27 hok
  obtain ⟨xs, k, hk, hxy, hcl, hxl, hfs⟩ := DataW.trod_struct Try.underlying27 hf
  have h6 : Try.prog.cellsOf 27 = 6 := by kernel_rfl
  rw [h6] at hcl
  obtain ⟨cs⟩ := cs
  simp only [Value.cells] at hcl hfs
  match xs, hxl, cs, hcl with
  | [y0, y1, y2, y3, y4, y5], _, [v0, v1, v2, v3, v4, v5], _ =>
    have g0 := hfs 0 _ rfl
    have g1 := hfs 1 _ rfl
    have g2 := hfs 2 _ rfl
    have g3 := hfs 3 _ rfl
    have g4 := hfs 4 _ rfl
    have g5 := hfs 5 _ rfl
    simp [mcM, mcS] at g0 g1 g2 g3 g4 g5
    obtain ⟨A0, n0, c0, l0, e0, f0, q0, r0, i0, s0⟩ := open_maps g0
    obtain ⟨A1, n1, c1, l1, e1, f1, q1, r1, i1, s1⟩ := open_maps g1
    obtain ⟨A2, n2, c2, l2, e2, f2, q2, r2, i2, s2⟩ := open_maps g2
    obtain ⟨A3, n3, c3, l3, e3, f3, q3, r3, i3, s3⟩ := open_maps g3
    obtain ⟨A4, n4, c4, l4, e4, f4, q4, r4, i4⟩ := open_set rfl g4
    obtain ⟨A5, n5, c5, l5, e5, f5, q5, r5, i5⟩ := open_set rfl g5
    simp at e0 e1 e2 e3 e4 e5
    subst e0; subst e1; subst e2; subst e3; subst e4; subst e5
    subst f0; subst f1; subst f2; subst f3; subst f4; subst f5
    exact ⟨_, _, _, _, _, _, ⟨l0, l1, l2, l3, l4, l5⟩, rfl, ⟨⟨A0, c0, rfl, q0, i0⟩, ⟨A1, c1, rfl, q1, i1⟩, ⟨A2, c2, rfl, q2, i2⟩, ⟨A3, c3, rfl, q3, i3⟩, ⟨A4, c4, rfl, q4, i4⟩, ⟨A5, c5, rfl, q5, i5⟩⟩,
      ⟨⟨by show l0.length ≤ _; omega, s0⟩, ⟨by show l1.length ≤ _; omega, s1⟩, ⟨by show l2.length ≤ _; omega, s2⟩, ⟨by show l3.length ≤ _; omega, s3⟩, by show l4.length ≤ _; omega, by show l5.length ≤ _; omega⟩⟩
end
end Go.Proofs.Ytpamkbbmbeeheaa
