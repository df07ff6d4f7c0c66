/- How an argument that is a slice of spans is opened; what the list of variables of a row gives. -/
import Derived.Test.YthagfcdleapooaaDoorOpen
import Derived.Test.YthagfcdleapooaaDoorCheck
import Derived.Test.YthagfcdleapooaaDoorRows
import Derived.Deep.Slices
import Derived.Deep.DeepHandedRow
import Derived.Lib.LaidTab
namespace Go.Proofs.YthagfcdleapooaaDoor
open Go.ChangeShapes Go.WideShapes Go.ChangeAt Go.RowKit

/-- a list made of values at indices -/
theorem flat3_of (n : Nat) (V : Nat → Spn) (j : Nat) (u : Value) (h : (flat3 ((List.range n).map V))[j]? = some u) :
    j / 3 < n ∧ u = .int .i64 (if j % 3 = 0 then (V (j / 3)).lo else if j % 3 = 1 then (V (j / 3)).hi else (V (j / 3)).val) := by
  have hlen : j < n * 3 := by have := (List.getElem?_eq_some_iff.1 h).1; rw [flat3_len] at this; simpa using this
  have hj : j / 3 < n := by omega
  refine ⟨hj, ?_⟩
  have hk : j / 3 < ((List.range n).map V).length := by simpa using hj
  have key : ∀ (ss : List Spn) (k : Nat) (hk : k < ss.length), (flat3 ss)[k * 3]? = some (.int .i64 ss[k].lo) ∧ (flat3 ss)[k * 3 + 1]? = some (.int .i64 ss[k].hi) ∧ (flat3 ss)[k * 3 + 2]? = some (.int .i64 ss[k].val) := by
    intro ss
    induction ss with
    | nil => intro k hk; simp at hk
    | cons s r ih =>
      intro k hk
      cases k with
      | zero => simp [flat3]
      | succ k =>
        have := ih k (by simpa using hk)
        simp only [flat3, List.flatMap_cons, List.cons_append, List.nil_append, List.getElem_cons_succ] at *
        rw [show (k + 1) * 3 = k * 3 + 1 + 1 + 1 by omega]
        simpa using this
  obtain ⟨k0, k1, k2⟩ := key _ (j / 3) hk
  simp only [List.getElem_map, List.getElem_range] at k0 k1 k2
  by_cases c0 : j % 3 = 0
  · rw [if_pos c0]
    rw [show j / 3 * 3 = j by omega, h] at k0
    exact Option.some.inj k0
  · rw [if_neg c0]
    by_cases c1 : j % 3 = 1
    · rw [if_pos c1]
      rw [show j / 3 * 3 + 1 = j by omega, h] at k1
      exact Option.some.inj k1
    · rw [if_neg c1]
      rw [show j / 3 * 3 + 2 = j by omega, h] at k2
      exact Option.some.inj k2

/-- an argument that is a slice of spans: its list, where it lies, its bounds -/
theorem open_spans {H : Type} {enc : TypeId × Value → H} {w : World} {base : Nat} {spare : Nat → Bool} {held : Bool} {A : Option Addr} {len cap : Nat} {d : DataW H} {p : List MemPlace}
    (h : DataW.Trod enc Tryd.prog w base spare held 22 (.slice A len cap) d p) :
    ∃ l : List Spn, l.length = len ∧ len ≤ cap ∧ cap ≤ 9223372036854775807 ∧ Spans w A l := by
  obtain ⟨fuel, hf⟩ := h
  have ce : Tryd.prog.cellsOf 44 = 3 := by kernel_rfl
  have ci : Tryd.prog.cellsOf 3 = 1 := by kernel_rfl
  rcases Deep.open_slice Tryd.underlying22 hf with ⟨hcs, _⟩ | ⟨a, l, c, m, n, D, Pl, hcs, hb, hl, hm, hmm, _, hx⟩
  · simp [Value.cells] at hcs
    obtain ⟨rfl, rfl, rfl⟩ := hcs
    exact ⟨[], rfl, Nat.le_refl _, by omega, Sl.nil _ _⟩
  · simp [Value.cells] at hcs
    obtain ⟨rfl, rfl, rfl⟩ := hcs
    unfold maxLen at hm
    have hlm : len ≤ m := by rw [hmm]; split <;> omega
    have each : ∀ i, i < len → ∃ q : Spn, w.cell? (a.add (i * 3)) = some (.int .i64 q.lo) ∧ w.cell? (a.add (i * 3 + 1)) = some (.int .i64 q.hi) ∧ w.cell? (a.add (i * 3 + 2)) = some (.int .i64 q.val) := by
      intro i hi
      obtain ⟨cs', h1, h2⟩ := hx i (by omega)
      rw [ce] at h1
      obtain ⟨_, hlen, hcell⟩ := World.cells?_some h1
      obtain ⟨xs, k, hk, hxy, _, hxl, hfs⟩ := DataW.trod_struct Tryd.underlying44 h2
      match xs, hxl, cs', hlen with
      | [y0, y1, y2], _, [v0, v1, v2], _ =>
        have g0 := hfs 0 _ rfl
        have g1 := hfs 1 _ rfl
        have g2 := hfs 2 _ rfl
        simp [ci] at g0 g1 g2
        obtain ⟨z0, e0, _, _⟩ := DataW.trod_int Tryd.underlying3 g0
        obtain ⟨z1, e1, _, _⟩ := DataW.trod_int Tryd.underlying3 g1
        obtain ⟨z2, e2, _, _⟩ := DataW.trod_int Tryd.underlying3 g2
        have c0 := hcell 0 (by omega)
        have c1 := hcell 1 (by omega)
        have c2 := hcell 2 (by omega)
        rw [Deep.add_add] at c0 c1 c2
        simp at e0 e1 e2
        subst e0; subst e1; subst e2
        exact ⟨⟨z0, z1, z2⟩, by simpa using c0, by simpa using c1, by simpa using c2⟩
    have : Inhabited Spn := ⟨⟨0, 0, 0⟩⟩
    obtain ⟨V, hV⟩ := Deep.choose_lt each
    refine ⟨(List.range len).map V, by simp, hl, hm, ?_⟩
    intro hne
    have hlen : 0 < len := by
      rcases Nat.eq_zero_or_pos len with h0 | h0
      · subst h0; simp [flat3] at hne
      · exact h0
    obtain ⟨b, off, spot⟩ := a
    have hc0 := (hV 0 hlen).1
    have hspot : spot = none := by simpa [Addr.add] using World.cell?_spot hc0
    subst hspot
    refine ⟨b, off, rfl, fun j u hu => ?_⟩
    have addp : ∀ i, (⟨b, off, none⟩ : Addr).add i = ⟨b, off + i, none⟩ := fun i => by
      unfold Addr.add
      split
      · next h0 => subst h0; rfl
      · rfl
    obtain ⟨hj, rfl⟩ := flat3_of len V j u hu
    obtain ⟨h0, h1, h2⟩ := hV (j / 3) hj
    rw [addp] at h0 h1 h2
    by_cases c0 : j % 3 = 0
    · rw [if_pos c0]
      rw [show j / 3 * 3 = j by omega] at h0
      exact h0
    · rw [if_neg c0]
      by_cases c1 : j % 3 = 1
      · rw [if_pos c1]
        rw [show j / 3 * 3 + 1 = j by omega] at h1
        exact h1
      · rw [if_neg c1]
        rw [show j / 3 * 3 + 2 = j by omega] at h2
        exact h2

theorem gName : Tryd.prog.globalNamed "unicodetext/ordering.hangulRanges" = some 0 := by kernel_rfl
theorem gType : (Tryd.prog.globals[0]?).map (·.type) = some 45 := by kernel_rfl

/-- what the rows' list of variables gives -/
theorem laid_of {W : World} (h : laidMet Tryd.prog [("unicodetext/ordering.hangulRanges", Rows.laid_unicodetext_ordering_hangulRanges)] W) : Laid W := by
  obtain ⟨ps, ⟨g', t', cs, fuel, p, q, hg', ht', hvar, hd, _, _⟩, _⟩ := h
  obtain rfl := Option.some.inj (gName.symm.trans hg')
  obtain rfl := Option.some.inj (gType.symm.trans ht')
  have cr : Tryd.prog.cellsOf 38 = 2 := by kernel_rfl
  have ci : Tryd.prog.cellsOf 3 = 1 := by kernel_rfl
  obtain ⟨xs, m, _, hxy, hlen, hxl, hel⟩ := DataW.trod_array Tryd.underlying45 hd
  match xs, hxl with
  | [y0, y1, y2, y3], _ =>
    simp only [Rows.laid_unicodetext_ordering_hangulRanges, Prod.mk.injEq, DataW.agg.injEq, List.map_cons, List.map_nil, List.cons.injEq, and_true] at hxy
    obtain ⟨⟨e0, e1, e2, e3⟩, _⟩ := hxy
    have pair : ∀ (enc : TypeId × Value → Unit) (base : Nat) (spare : Nat → Bool) (held : Bool) (i : Nat) (a b : Int) (y : DataW Unit × List MemPlace), DataW.trod enc Tryd.prog W base spare held m 38 ((cs.toList.drop (i * 2)).take 2) = some y → .agg [.lit (.int .i64 a), .lit (.int .i64 b)] = y.1 → cs.toList[i * 2]? = some (.int .i64 a) ∧ cs.toList[i * 2 + 1]? = some (.int .i64 b) := by
      intro enc base spare held i a b y hy he
      obtain ⟨zs, k, _, hz, hzl, hzn, hfs⟩ := DataW.trod_struct Tryd.underlying38 hy
      match zs, hzn with
      | [u0, u1], _ =>
        have g0 := hfs 0 _ rfl
        have g1 := hfs 1 _ rfl
        obtain ⟨z0, f0, rfl, _⟩ := DataW.trod_int Tryd.underlying3 g0
        obtain ⟨z1, f1, rfl, _⟩ := DataW.trod_int Tryd.underlying3 g1
        subst hz
        simp at he
        obtain ⟨rfl, rfl⟩ := he
        have h0 := congrArg (·[0]?) f0
        have h1 := congrArg (·[0]?) f1
        simp [ci, List.getElem?_drop] at h0 h1
        exact ⟨by simpa using h0, by simpa using h1⟩
    rw [cr] at hel
    have p0 := pair _ _ _ _ 0 _ _ _ (hel 0 (by omega)) e0
    have p1 := pair _ _ _ _ 1 _ _ _ (hel 1 (by omega)) e1
    have p2 := pair _ _ _ _ 2 _ _ _ (hel 2 (by omega)) e2
    have p3 := pair _ _ _ _ 3 _ _ _ (hel 3 (by omega)) e3
    have cell := fun i => World.var?_cell gName hvar i
    simp only [← Array.getElem?_toList] at cell
    exact ⟨(cell 0).trans p0.1, (cell 1).trans p0.2, (cell 2).trans p1.1, (cell 3).trans p1.2, (cell 4).trans p2.1, (cell 5).trans p2.2, (cell 6).trans p3.1, (cell 7).trans p3.2⟩

end Go.Proofs.YthagfcdleapooaaDoor
