/- How an argument that is a collation, or a slice of strings, is opened. -/
import Derived.Test.YtnfnoefjgiojoaaOpenR
import Derived.Test.YtnfnoefjgiojoaaOpen
import Derived.Test.YtnfnoefjgiojoaaCkColl
namespace Go.Proofs.Ytnfnoefjgiojoaa
open Go.ChangeShapes Go.WideShapes Go.ChangeAt Go.RowKit

section
variable {H : Type} {enc : TypeId × Value → H} {w : World} {base : Nat} {spare : Nat → Bool} {held : Bool} {fuel : Nat} {cs : List Value} {x : DataW H × List MemPlace}

theorem ci : Try.prog.cellsOf 3 = 1 := by kernel_rfl
theorem cs' : Try.prog.cellsOf 9 = 1 := by kernel_rfl
theorem cb' : Try.prog.cellsOf 4 = 1 := by kernel_rfl
theorem cI : Try.prog.cellsOf 46 = 1 := by kernel_rfl
theorem cE : Try.prog.cellsOf 47 = 1 := by kernel_rfl
theorem cN : Try.prog.cellsOf 22 = 1 := by kernel_rfl
theorem cG : Try.prog.cellsOf 23 = 1 := by kernel_rfl

theorem open_ints' (h : DataW.trod enc Try.prog w base spare held fuel 46 cs = some x) :
    ∃ A len cap, ∃ l : List Int, cs = [.slice A len cap] ∧ l.length = len ∧ len ≤ cap ∧ cap ≤ 9223372036854775807 ∧ Ints w A l := by
  obtain ⟨A, len, cap, l, h1, h2, h3, h4, h5, _⟩ := open_recs (α := Int) (fun z => [.int .i64 z]) 1 (by omega) (fun _ => rfl) (fun _ => True) Try.underlying46 ci (fun fuel cs x hl hx => by
    obtain ⟨z, hz, _, _⟩ := DataW.trod_int Try.underlying3 hx
    exact ⟨z, hz, trivial⟩) h
  refine ⟨A, len, cap, l, h1, h2, h3, h4, ?_⟩
  unfold Recs flatK at h5
  unfold Ints
  rw [show l.map (Value.int .i64) = l.flatMap (fun z => [.int .i64 z]) by clear h2 h5; induction l <;> simp_all]
  exact h5

theorem open_strs' (h : DataW.trod enc Try.prog w base spare held fuel 26 cs = some x) :
    ∃ A len cap, ∃ l : List ByteArray, cs = [.slice A len cap] ∧ l.length = len ∧ len ≤ cap ∧ cap ≤ 9223372036854775807 ∧ Sl w A (l.map Value.string) ∧ ∀ s ∈ l, s.size ≤ 9223372036854775807 := by
  obtain ⟨A, len, cap, l, h1, h2, h3, h4, h5, h6⟩ := open_recs (α := ByteArray) (fun z => [.string z]) 1 (by omega) (fun _ => rfl) (fun s => s.size ≤ 9223372036854775807) Try.underlying26 cs' (fun fuel cs x hl hx => by
    obtain ⟨z, hz, _, hs⟩ := DataW.trod_string Try.underlying9 hx
    exact ⟨z, hz, by unfold maxLen at hs; omega⟩) h
  refine ⟨A, len, cap, l, h1, h2, h3, h4, ?_, h6⟩
  unfold Recs flatK at h5
  rw [show l.map Value.string = l.flatMap (fun z => [.string z]) by clear h2 h5 h6; induction l <;> simp_all]
  exact h5

instance : Inhabited Grp := ⟨⟨.empty, 0, 0⟩⟩
instance : Inhabited Elt := ⟨⟨0, 0, 0, false⟩⟩
instance : Inhabited Ent := ⟨⟨[], []⟩⟩

set_option maxRecDepth 100000 in
theorem open_grps (h : DataW.trod enc Try.prog w base spare held fuel 23 cs = some x) :
    ∃ A len cap, ∃ l : List Grp, cs = [.slice A len cap] ∧ l.length = len ∧ len ≤ cap ∧ cap ≤ 9223372036854775807 ∧ Grps w A l ∧ ∀ g ∈ l, g.name.size ≤ 9223372036854775807 := by
  refine open_recs (α := Grp) Grp.cells 3 (by omega) (fun _ => rfl) (fun g => g.name.size ≤ 9223372036854775807) Try.underlying23 (by kernel_rfl) (fun fuel cs x hl hx => ?_) h
  obtain ⟨xs, k, hk, hxy, _, hxl, hfs⟩ := DataW.trod_struct Try.underlying36 hx
  match xs, hxl, cs, hl with
  | [y0, y1, y2], _, [v0, v1, v2], _ =>
    have g0 := hfs 0 _ rfl
    have g1 := hfs 1 _ rfl
    have g2 := hfs 2 _ rfl
    simp [ci, cs'] at g0 g1 g2
    obtain ⟨z0, e0, _, hs⟩ := DataW.trod_string Try.underlying9 g0
    obtain ⟨z1, e1, _, _⟩ := DataW.trod_int Try.underlying3 g1
    obtain ⟨z2, e2, _, _⟩ := DataW.trod_int Try.underlying3 g2
    simp at e0 e1 e2
    subst e0; subst e1; subst e2
    exact ⟨⟨z0, z1, z2⟩, rfl, by unfold maxLen at hs; show z0.size ≤ _; omega⟩

set_option maxRecDepth 100000 in
theorem open_elts (h : DataW.trod enc Try.prog w base spare held fuel 47 cs = some x) :
    ∃ A len cap, ∃ l : List Elt, cs = [.slice A len cap] ∧ l.length = len ∧ len ≤ cap ∧ cap ≤ 9223372036854775807 ∧ Elts w A l ∧ ∀ _ ∈ l, True := by
  refine open_recs (α := Elt) Elt.cells 4 (by omega) (fun _ => rfl) (fun _ => True) Try.underlying47 (by kernel_rfl) (fun fuel cs x hl hx => ?_) h
  obtain ⟨xs, k, hk, hxy, _, hxl, hfs⟩ := DataW.trod_struct Try.underlying51 hx
  match xs, hxl, cs, hl with
  | [y0, y1, y2, y3], _, [v0, v1, v2, v3], _ =>
    have g0 := hfs 0 _ rfl
    have g1 := hfs 1 _ rfl
    have g2 := hfs 2 _ rfl
    have g3 := hfs 3 _ rfl
    simp [ci, cb'] at g0 g1 g2 g3
    obtain ⟨z0, e0, _, _⟩ := DataW.trod_int Try.underlying3 g0
    obtain ⟨z1, e1, _, _⟩ := DataW.trod_int Try.underlying3 g1
    obtain ⟨z2, e2, _, _⟩ := DataW.trod_int Try.underlying3 g2
    obtain ⟨z3, e3, _⟩ := DataW.trod_bool Try.underlying4 g3
    simp at e0 e1 e2 e3
    subst e0; subst e1; subst e2; subst e3
    exact ⟨⟨z0, z1, z2, z3⟩, rfl, trivial⟩

set_option maxRecDepth 100000 in
theorem open_ents (h : DataW.trod enc Try.prog w base spare held fuel 22 cs = some x) :
    ∃ A len cap, ∃ l : List Ent, cs = [.slice A len cap] ∧ l.length = len ∧ len ≤ cap ∧ cap ≤ 9223372036854775807 ∧ Ents w A l := by
  have : Inhabited (Value × Value) := ⟨(.bool false, .bool false)⟩
  obtain ⟨A, len, cap, vs, h1, h2, h3, h4, h5, h6⟩ := open_recs (α := Value × Value) (fun v => [v.1, v.2]) 2 (by omega) (fun _ => rfl) (fun v => ∃ x, EntV w v x) Try.underlying22 (by kernel_rfl) (fun fuel cs x hl hx => by
    obtain ⟨xs, k, hk, hxy, _, hxl, hfs⟩ := DataW.trod_struct Try.underlying49 hx
    match xs, hxl, cs, hl with
    | [y0, y1], _, [v0, v1], _ =>
      have g0 := hfs 0 _ rfl
      have g1 := hfs 1 _ rfl
      simp [cI, cE] at g0 g1
      obtain ⟨A0, n0, c0, l0, e0, f0, _, _, i0⟩ := open_ints' g0
      obtain ⟨A1, n1, c1, l1, e1, f1, _, _, i1, _⟩ := open_elts g1
      simp at e0 e1
      subst e0; subst e1; subst f0; subst f1
      exact ⟨(.slice A0 l0.length c0, .slice A1 l1.length c1), rfl, ⟨l0, l1⟩, ⟨A0, c0, A1, c1, rfl, i0, i1⟩⟩) h
  have each : ∀ i, i < vs.length → ∃ y : Ent, ∀ hv : i < vs.length, EntV w vs[i] y := fun i hi => by
    obtain ⟨y, hy⟩ := h6 _ (List.getElem_mem hi)
    exact ⟨y, fun _ => hy⟩
  obtain ⟨V, hV⟩ := Deep.choose_lt each
  refine ⟨A, len, cap, (List.range vs.length).map V, h1, by simpa using h2, h3, h4, vs, by simp, h5, fun i hi hv => ?_⟩
  have := hV i hv hv
  simpa using this

set_option maxRecDepth 100000 in
theorem open_col {v : Value} {r : Reach} {b0 : Nat} {d : DataW H} {p : List MemPlace} (hok : Value.okWide Try.prog w r b0 25 v) (h : DataW.Trod enc Try.prog w base spare held 25 v d p) :
    ∃ A n a B m b, ∃ c : Col, v = colV A n a B m b c ∧ ColAt w A n B m c ∧ n ≤ a ∧ m ≤ b := by
  obtain ⟨fuel, hf⟩ := h
  obtain ⟨cs, rfl, _⟩ := okWide_struct Try.underlying25 hok
  obtain ⟨xs, k, hk, hxy, hcl, hxl, hfs⟩ := DataW.trod_struct Try.underlying25 hf
  have h5 : Try.prog.cellsOf 25 = 5 := by kernel_rfl
  rw [h5] at hcl
  obtain ⟨cs⟩ := cs
  simp only [Value.cells] at hcl hfs
  match xs, hxl, cs, hcl with
  | [y0, y1, y2, y3, y4], _, [v0, v1, v2, v3, v4], _ =>
    have g0 := hfs 0 _ rfl
    have g1 := hfs 1 _ rfl
    have g2 := hfs 2 _ rfl
    have g3 := hfs 3 _ rfl
    have g4 := hfs 4 _ rfl
    simp [ci, cN, cG] at g0 g1 g2 g3 g4
    obtain ⟨A, n, a, l0, e0, f0, q0, _, i0⟩ := open_ents g0
    obtain ⟨B, m, b, l1, e1, f1, q1, _, i1, s1⟩ := open_grps g1
    obtain ⟨z2, e2, _, _⟩ := DataW.trod_int Try.underlying3 g2
    obtain ⟨z3, e3, _, _⟩ := DataW.trod_int Try.underlying3 g3
    obtain ⟨z4, e4, _, _⟩ := DataW.trod_int Try.underlying3 g4
    simp at e0 e1 e2 e3 e4
    subst e0; subst e1; subst e2; subst e3; subst e4
    exact ⟨A, n, a, B, m, b, ⟨l0, l1, z2, z3, z4⟩, rfl, ⟨i0, i1, f0, f1, s1⟩, q0, q1⟩
end
end Go.Proofs.Ytnfnoefjgiojoaa
