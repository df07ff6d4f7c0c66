/- How arguments that are slices of mappings or of ranges, or sets, are opened. -/
import Derived.Test.YtpamkbbmbeeheaaOpenR
import Derived.Test.YtpamkbbmbeeheaaOpen
import Derived.Test.YtpamkbbmbeeheaaMap
namespace Go.Proofs.Ytpamkbbmbeeheaa
open Go.ChangeShapes Go.WideShapes Go.ChangeAt Go.RowKit

section
variable {H : Type} {enc : TypeId × Value → H} {w : World} {base : Nat} {spare : Nat → Bool} {held : Bool} {fuel : Nat} {cs : List Value} {x : DataW H × List MemPlace}

theorem mci : Try.prog.cellsOf 3 = 1 := by kernel_rfl
theorem mcs : Try.prog.cellsOf 9 = 1 := by kernel_rfl
theorem mcI : Try.prog.cellsOf 32 = 1 := by kernel_rfl
theorem mcR : Try.prog.cellsOf 23 = 1 := by kernel_rfl
theorem mcM : Try.prog.cellsOf 22 = 1 := by kernel_rfl
theorem mcS : Try.prog.cellsOf 25 = 1 := by kernel_rfl

theorem open_intsM (h : DataW.trod enc Try.prog w base spare held fuel 32 cs = some x) :
    ∃ A len cap, ∃ l : List Int, cs = [.slice A len cap] ∧ l.length = len ∧ len ≤ cap ∧ cap ≤ 9223372036854775807 ∧ Ints w A l := by
  obtain ⟨A, len, cap, l, h1, h2, h3, h4, h5, _⟩ := open_recs (α := Int) (fun z => [.int .i64 z]) 1 (by omega) (fun _ => rfl) (fun _ => True) Try.underlying32 mci (fun fuel cs x hl hx => by
    obtain ⟨z, hz, _, _⟩ := DataW.trod_int Try.underlying3 hx
    exact ⟨z, hz, trivial⟩) h
  refine ⟨A, len, cap, l, h1, h2, h3, h4, ?_⟩
  unfold Recs flatK at h5
  unfold Ints
  rw [show l.map (Value.int .i64) = l.flatMap (fun z => [.int .i64 z]) by clear h2 h5; induction l <;> simp_all]
  exact h5

instance : Inhabited Rg := ⟨⟨0, 0⟩⟩

set_option maxRecDepth 100000 in
theorem open_rgs (h : DataW.trod enc Try.prog w base spare held fuel 23 cs = some x) :
    ∃ A len cap, ∃ l : List Rg, cs = [.slice A len cap] ∧ l.length = len ∧ len ≤ cap ∧ cap ≤ 9223372036854775807 ∧ Rgs w A l ∧ ∀ _ ∈ l, True := by
  refine open_recs (α := Rg) Rg.cells 2 (by omega) (fun _ => rfl) (fun _ => True) Try.underlying23 (by kernel_rfl) (fun fuel cs x hl hx => ?_) h
  obtain ⟨xs, k, hk, hxy, _, hxl, hfs⟩ := DataW.trod_struct Try.underlying48 hx
  match xs, hxl, cs, hl with
  | [y0, y1], _, [v0, v1], _ =>
    have g0 := hfs 0 _ rfl
    have g1 := hfs 1 _ rfl
    simp [mci] at g0 g1
    obtain ⟨z0, e0, _, _⟩ := DataW.trod_int Try.underlying3 g0
    obtain ⟨z1, e1, _, _⟩ := DataW.trod_int Try.underlying3 g1
    simp at e0 e1
    subst e0; subst e1
    exact ⟨⟨z0, z1⟩, rfl, trivial⟩

set_option maxRecDepth 100000 in
theorem open_set (hcl : cs.length = 1) (h : DataW.trod enc Try.prog w base spare held fuel 25 cs = some x) :
    ∃ A len cap, ∃ l : List Rg, cs = [.slice A len cap] ∧ l.length = len ∧ len ≤ cap ∧ cap ≤ 9223372036854775807 ∧ Rgs w A l := by
  obtain ⟨xs, k, hk, hxy, _, hxl, hfs⟩ := DataW.trod_struct Try.underlying25 h
  match xs, hxl, cs, hcl with
  | [y0], _, [v0], _ =>
    have g0 := hfs 0 _ rfl
    simp [mcR] at g0
    obtain ⟨A, len, cap, l, h1, h2, h3, h4, h5, _⟩ := open_rgs g0
    exact ⟨A, len, cap, l, h1, h2, h3, h4, h5⟩

/-- what is known of a mapping that lies in memory -/
def MpR (w : World) (p : Mp × Value) : Prop := ∃ C c, p.2 = .slice C p.1.to.length c ∧ p.1.to.length ≤ c ∧ c ≤ 9223372036854775807 ∧ Ints w C p.1.to ∧ p.1.tag.size ≤ 9223372036854775807
set_option maxRecDepth 100000 in
theorem open_maps (h : DataW.trod enc Try.prog w base spare held fuel 22 cs = some x) :
    ∃ A len cap, ∃ l : List Mp, cs = [.slice A len cap] ∧ l.length = len ∧ len ≤ cap ∧ cap ≤ 9223372036854775807 ∧ Mps w A l ∧ ∀ i, (hi : i < l.length) → l[i].to.length ≤ 9223372036854775807 ∧ l[i].tag.size ≤ 9223372036854775807 := by
  have : Inhabited (Mp × Value) := ⟨(⟨0, [], .empty⟩, .bool false)⟩
  obtain ⟨A, len, cap, l, h1, h2, h3, h4, h5, h6⟩ := open_recs (α := Mp × Value) mpC 3 (by omega) (fun _ => rfl) (MpR w) Try.underlying22 (by kernel_rfl) (fun fuel cs x hl hx => by
    obtain ⟨xs, k, hk, hxy, _, hxl, hfs⟩ := DataW.trod_struct Try.underlying38 hx
    match xs, hxl, cs, hl with
    | [y0, y1, y2], _, [v0, v1, v2], _ =>
      have g0 := hfs 0 _ rfl
      have g1 := hfs 1 _ rfl
      have g2 := hfs 2 _ rfl
      simp [mci, mcI, mcs] at g0 g1 g2
      obtain ⟨z0, e0, _, _⟩ := DataW.trod_int Try.underlying3 g0
      obtain ⟨A1, n1, c1, l1, e1, f1, q1, r1, i1⟩ := open_intsM g1
      obtain ⟨z2, e2, _, hs⟩ := DataW.trod_string Try.underlying9 g2
      simp at e0 e1 e2
      subst e0; subst e1; subst e2; subst f1
      exact ⟨(⟨z0, l1, z2⟩, .slice A1 l1.length c1), rfl, A1, c1, rfl, q1, r1, i1, by unfold maxLen at hs; show z2.size ≤ _; omega⟩) h
  have hz : (l.map Prod.fst).zip (l.map Prod.snd) = l := (List.zip_of_prod rfl rfl).symm
  refine ⟨A, len, cap, l.map Prod.fst, h1, by simpa using h2, h3, h4, ⟨l.map Prod.snd, by simp, by rw [hz]; exact h5, fun i hi hv => ?_⟩, fun i hi => ?_⟩
  · have hl : i < l.length := by simpa using hi
    obtain ⟨C, c, e1, e2, _, e4, _⟩ := h6 l[i] (List.getElem_mem hl)
    exact ⟨C, c, by simpa using e1, by simpa using e2, by simpa using e4⟩
  · have hl : i < l.length := by simpa using hi
    obtain ⟨C, c, e1, e2, e3, _, e5⟩ := h6 l[i] (List.getElem_mem hl)
    simp only [List.getElem_map]
    exact ⟨by omega, e5⟩
end
end Go.Proofs.Ytpamkbbmbeeheaa
