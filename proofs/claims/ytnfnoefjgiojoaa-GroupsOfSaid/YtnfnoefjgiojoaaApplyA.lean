/- Rows that a call owns: entries and elements; copies of elements and of codes. -/
import Derived.Test.YtnfnoefjgiojoaaLawsA
import Derived.Test.YtnfnoefjgiojoaaClone
import Derived.Laws.MakeOwn
import Derived.Laws.OwnMore
namespace Go.Proofs.Ytnfnoefjgiojoaa
open Go.RowKit Go.Maps Go.WideMaps

/-- cells in a block from s on -/
def SlA (w : World) (s : Nat) (A : Option Addr) (cs : List Value) : Prop := cs ≠ [] → ∃ b o, A = some ⟨b, o, none⟩ ∧ s ≤ b ∧ ∀ j u, cs[j]? = some u → w.cell? ⟨b, o + j, none⟩ = some u
section
variable {w w' : World} {s : Nat} {A : Option Addr} {cs : List Value}
theorem SlA.sl (h : SlA w s A cs) : Sl w A cs := fun hne => by
  obtain ⟨b, o, h1, _, h3⟩ := h hne
  exact ⟨b, o, h1, h3⟩
theorem SlA.below (h : SlA w s A cs) (hb : Below w.heap.size w w') : SlA w' s A cs := fun hne => by
  obtain ⟨b, o, h1, h2, h3⟩ := h hne
  refine ⟨b, o, h1, h2, fun j u hu => ?_⟩
  have := h3 j u hu
  exact (hb.cell (p := ⟨b, o + j, none⟩) (World.block_lt_of_cell? w _ this)).trans this
theorem SlA.grown {g : Nat} (h : SlA w s A cs) (hg : w.grownBy w' (some g)) (hgs : g < s) : SlA w' s A cs := fun hne => by
  obtain ⟨b, o, h1, h2, h3⟩ := h hne
  refine ⟨b, o, h1, h2, fun j u hu => ?_⟩
  exact hg.cell (h3 j u hu) (by simp; omega)
theorem SlA.of_own {e : TypeId} {size n c : Nat} (h : w.ownsRow s e size (.slice A n c) n cs) : SlA w s A cs := fun hne => by
  obtain ⟨b, o, h1, h3⟩ := Sl.of_own h hne
  refine ⟨b, o, h1, ?_, h3⟩
  rcases h.2 with ⟨hv, h0⟩ | ⟨g, cap, cur, hv, hb, _⟩
  · injection hv with hA; subst hA; cases h1
  · injection hv with hA; subst hA; injection h1 with h1; injection h1 with h1; omega
theorem SlA.mono {t : Nat} (h : SlA w s A cs) (ht : t ≤ s) : SlA w t A cs := fun hne => by
  obtain ⟨b, o, h1, h2, h3⟩ := h hne
  exact ⟨b, o, h1, Nat.le_trans ht h2, h3⟩
end

/-- an entry's two slices, in blocks from s on -/
def EntA (w : World) (s : Nat) (v : Value × Value) (x : Ent) : Prop := ∃ A c B d, v = (.slice A x.codes.length c, .slice B x.elems.length d) ∧ SlA w s A (x.codes.map (Value.int .i64)) ∧ SlA w s B (flatK Elt.cells x.elems)
section
variable {w w' : World} {s : Nat} {v : Value × Value} {x : Ent}
theorem EntA.below (h : EntA w s v x) (hb : Below w.heap.size w w') : EntA w' s v x := by
  obtain ⟨A, c, B, d, hv, h1, h2⟩ := h
  exact ⟨A, c, B, d, hv, h1.below hb, h2.below hb⟩
theorem EntA.grown {g : Nat} (h : EntA w s v x) (hg : w.grownBy w' (some g)) (hgs : g < s) : EntA w' s v x := by
  obtain ⟨A, c, B, d, hv, h1, h2⟩ := h
  exact ⟨A, c, B, d, hv, h1.grown hg hgs, h2.grown hg hgs⟩
theorem EntA.entV (h : EntA w s v x) : EntV w v x := by
  obtain ⟨A, c, B, d, hv, h1, h2⟩ := h
  exact ⟨A, c, B, d, hv, h1.sl, h2.sl⟩
end

def two2 (v : Value × Value) : List Value := [v.1, v.2]
theorem unflat2 : ∀ (n : Nat) (xs : List Value), xs.length = n * 2 → ∃ vs : List (Value × Value), vs.length = n ∧ flatK two2 vs = xs
  | 0, xs, h => ⟨[], rfl, by rw [show xs = [] from List.eq_nil_of_length_eq_zero (by simpa using h)]; rfl⟩
  | n + 1, a :: b :: r, h => by
    obtain ⟨vs, h1, h2⟩ := unflat2 n r (by simp at h; omega)
    exact ⟨(a, b) :: vs, by simp [h1], by rw [← h2]; rfl⟩
  | n + 1, [a], h => by simp at h; omega
  | n + 1, [], h => by simp at h
theorem flat2_set (vs : List (Value × Value)) (i : Nat) (a b : Value) (hi : i < vs.length) : ((flatK two2 vs).set (i * 2) a).set (i * 2 + 1) b = flatK two2 (vs.set i (a, b)) := by
  induction vs generalizing i with
  | nil => simp at hi
  | cons y r ih =>
    cases i with
    | zero => simp [flatK, two2]
    | succ i =>
      have h1 := ih i (by simpa using hi)
      simp only [flatK, List.flatMap_cons, two2, List.cons_append, List.nil_append, List.set_cons_succ] at *
      rw [show (i + 1) * 2 = i * 2 + 1 + 1 by omega]
      simp only [List.set_cons_succ, h1]
theorem flat4_set (d : List Elt) (i : Nat) (p : Int) (hi : i < d.length) : (flatK Elt.cells d).set (i * 4) (.int .i64 p) = flatK Elt.cells (d.set i { d[i] with p := p }) := by
  induction d generalizing i with
  | nil => simp at hi
  | cons y r ih =>
    cases i with
    | zero => simp [flatK, Elt.cells]
    | succ i =>
      have h1 := ih i (by simpa using hi)
      simp only [flatK, List.flatMap_cons, Elt.cells, List.cons_append, List.nil_append, List.set_cons_succ, List.getElem_cons_succ] at *
      rw [show (i + 1) * 4 = i * 4 + 1 + 1 + 1 + 1 by omega]
      simp only [List.set_cons_succ, h1]

theorem info_ent : (Try.prog.info? 49).map (fun i => (i.zero, i.size, i.bytes)) = some (some (.agg #[.slice none 0 0, .slice none 0 0]), 2, 48) := by kernel_rfl
theorem SlA.keep {w w' : World} {s : Nat} {A : Option Addr} {cs : List Value} (h : SlA w s A cs) (hk : ∀ p : Addr, s ≤ p.block → w'.cell? p = w.cell? p) : SlA w' s A cs := fun hne => by
  obtain ⟨b, o, h1, h2, h3⟩ := h hne
  exact ⟨b, o, h1, h2, fun j u hu => (hk ⟨b, o + j, none⟩ h2).trans (h3 j u hu)⟩
theorem EntA.keep {w w' : World} {s : Nat} {v : Value × Value} {x : Ent} (h : EntA w s v x) (hk : ∀ p : Addr, s ≤ p.block → w'.cell? p = w.cell? p) : EntA w' s v x := by
  obtain ⟨A, c, B, d, hv, h1, h2⟩ := h
  exact ⟨A, c, B, d, hv, h1.keep hk, h2.keep hk⟩
/-- groups stay where a block changes that holds no string -/
theorem Grps.off {w w' : World} {A : Option Addr} {gs : List Grp} (h : Grps w A gs) (q : Nat → Prop) (hs : ∀ b o s, w.cell? ⟨b, o, none⟩ = some (.string s) → ¬ q b) (hk : ∀ p : Addr, ¬ q p.block → w'.cell? p = w.cell? p) : Grps w' A gs := by
  intro hne
  obtain ⟨b, o, h1, h3⟩ := h hne
  refine ⟨b, o, h1, fun j u hu => ?_⟩
  have hq : ¬ q b := by
    cases gs with
    | nil => exact absurd rfl hne
    | cons g r => exact hs b o g.name (h3 0 _ rfl)
  exact (hk ⟨b, o + j, none⟩ hq).trans (h3 j u hu)

/-! what Apply computes -/
def movE (f : Int → Int) (e : Elt) : Elt := { e with p := f e.p }
def movEnt (f : Int → Int) (x : Ent) : Ent := ⟨x.codes, x.elems.map (movE f)⟩
def appC (c : Col) (names : List ByteArray) : Col := if ordErr c names = 0 then ⟨c.ents.map (movEnt (mov c names)), ordG c.grps names, c.base, c.second, c.third⟩ else ⟨[], [], 0, 0, 0⟩
def mixE (f : Int → Int) (es : List Elt) (k : Nat) : List Elt := (es.take k).map (movE f) ++ es.drop k
section
variable {f : Int → Int} {es : List Elt} {k : Nat}
theorem mixE_len : (mixE f es k).length = es.length := by simp [mixE]; omega
theorem mixE_get (hk : k < es.length) : (mixE f es k)[k]? = some es[k] := by
  unfold mixE
  rw [List.getElem?_append_right (by simp; omega), List.getElem?_drop, List.length_map, List.length_take, show k + (k - min k es.length) = k by omega, List.getElem?_eq_getElem hk]
theorem mixE_set (hk : k < es.length) : (mixE f es k).set k (movE f es[k]) = mixE f es (k + 1) := by
  unfold mixE
  rw [List.set_append_right _ _ (by simp; omega), List.take_succ_eq_append_getElem hk, List.map_append, List.drop_eq_getElem_cons hk]
  have : k - ((es.take k).map (movE f)).length = 0 := by simp; omega
  rw [this, List.set_cons_zero]
  simp only [List.map_cons, List.map_nil, List.append_assoc, List.cons_append, List.nil_append]
theorem mixE_zero : mixE f es 0 = es := by simp [mixE]
theorem mixE_end (hk : ¬ k < es.length) : mixE f es k = es.map (movE f) := by
  unfold mixE
  rw [List.take_of_length_le (by omega), List.drop_of_length_le (by omega), List.append_nil]
end

def RetApp (out : Col) (err : Int) (w : World) (e : Ending) (w' : World) : Prop := ∃ A n a B m b, e = .returned (.tuple #[colV A n a B m b out, .int .i64 err]) ∧ ColAt w' A n B m out ∧ n ≤ a ∧ m ≤ b ∧ Below w.heap.size w w'

theorem results_app (tmps : Array Value) (w : World) {b : Nat} {v0 v1 : Value} {z0 z1 z2 : Int} (ha : tmps.getD 4 undef = .pointer (some ⟨b, 0, none⟩))
    (c0 : w.cell? ⟨b, 0, none⟩ = some v0) (c1 : w.cell? ⟨b, 1, none⟩ = some v1) (c2 : w.cell? ⟨b, 2, none⟩ = some (.int .i64 z0)) (c3 : w.cell? ⟨b, 3, none⟩ = some (.int .i64 z1)) (c4 : w.cell? ⟨b, 4, none⟩ = some (.int .i64 z2)) :
    (results Try.f19 tmps).run Try.prog w = .ok (.tuple #[.agg #[v0, v1, .int .i64 z0, .int .i64 z1, .int .i64 z2], tmps.getD 5 undef]) w := by
  have hr : Try.f19.results = #[.cell 4 25, .tmp 5] := rfl
  unfold results
  rw [hr]
  simp only [ha, List.mapM_toArray, List.mapM_cons, List.mapM_nil, asAddr]
  go_simp
theorem results_rapp (tmps : Array Value) (w : World) {b : Nat} {v0 v1 : Value} {z0 z1 z2 : Int} (ha : tmps.getD 4 undef = .pointer (some ⟨b, 0, none⟩))
    (c0 : w.cell? ⟨b, 0, none⟩ = some v0) (c1 : w.cell? ⟨b, 1, none⟩ = some v1) (c2 : w.cell? ⟨b, 2, none⟩ = some (.int .i64 z0)) (c3 : w.cell? ⟨b, 3, none⟩ = some (.int .i64 z1)) (c4 : w.cell? ⟨b, 4, none⟩ = some (.int .i64 z2)) :
    (results Try.f20 tmps).run Try.prog w = .ok (.tuple #[.agg #[v0, v1, .int .i64 z0, .int .i64 z1, .int .i64 z2], tmps.getD 5 undef]) w := by
  have hr : Try.f20.results = #[.cell 4 25, .tmp 5] := rfl
  unfold results
  rw [hr]
  simp only [ha, List.mapM_toArray, List.mapM_cons, List.mapM_nil, asAddr]
  go_simp

end Go.Proofs.Ytnfnoefjgiojoaa
