/- Collations: groups, elements, entries; how they lie in memory; which error the check finds first. Plain. -/
import Derived.Test.YtpamkbbmbeeheaaStr
namespace Go.Proofs.Ytpamkbbmbeeheaa
open Go.RowKit

/-- a group of primary weights -/
structure Grp where
  name : ByteArray
  lo : Int
  hi : Int
  deriving DecidableEq
/-- a collation element -/
structure Elt where
  p : Int
  s : Int
  t : Int
  v : Bool
  deriving DecidableEq
/-- an entry -/
structure Ent where
  codes : List Int
  elems : List Elt
  deriving DecidableEq
/-- a collation -/
structure Col where
  ents : List Ent
  grps : List Grp
  base : Int
  second : Int
  third : Int

def Grp.cells (g : Grp) : List Value := [.string g.name, .int .i64 g.lo, .int .i64 g.hi]
def Elt.cells (e : Elt) : List Value := [.int .i64 e.p, .int .i64 e.s, .int .i64 e.t, .bool e.v]

section
variable {α : Type} (enc : α → List Value)
def flatK (xs : List α) : List Value := xs.flatMap enc
theorem flatK_len (k : Nat) (hk : ∀ x, (enc x).length = k) (xs : List α) : (flatK enc xs).length = xs.length * k := by
  induction xs with
  | nil => simp [flatK]
  | cons x xs ih => simp only [flatK, List.flatMap_cons, List.length_append, List.length_cons, hk] at *; rw [ih, Nat.add_mul, Nat.one_mul, Nat.add_comm]
theorem flatK_get (k : Nat) (hk : ∀ x, (enc x).length = k) (xs : List α) (i j : Nat) (hi : i < xs.length) (hj : j < k) : (flatK enc xs)[i * k + j]? = (enc xs[i])[j]? := by
  induction xs generalizing i with
  | nil => simp at hi
  | cons x xs ih =>
    cases i with
    | zero =>
      simp only [flatK, List.flatMap_cons, Nat.zero_mul, Nat.zero_add, List.getElem_cons_zero]
      rw [List.getElem?_append_left (by rw [hk]; exact hj)]
    | succ i =>
      simp only [flatK, List.flatMap_cons, List.getElem_cons_succ]
      rw [List.getElem?_append_right (by rw [hk, Nat.add_mul]; omega), hk, show (i + 1) * k + j - k = i * k + j by rw [Nat.add_mul, Nat.one_mul]; omega]
      exact ih i (by simpa using hi)
theorem flatK_append (xs ys : List α) : flatK enc (xs ++ ys) = flatK enc xs ++ flatK enc ys := by simp [flatK]
end

/-- the slice at A holds the records xs, k cells each -/
def Recs {α : Type} (enc : α → List Value) (w : World) (A : Option Addr) (xs : List α) : Prop := Sl w A (flatK enc xs)

theorem Recs.below {α : Type} {enc : α → List Value} {w w' : World} {A : Option Addr} {xs : List α} (h : Recs enc w A xs) (hb : Below w.heap.size w w') : Recs enc w' A xs := Sl.below h hb

theorem Recs.at {α : Type} {enc : α → List Value} {w : World} {A : Option Addr} {xs : List α} (k : Nat) (hk : ∀ x, (enc x).length = k) (k0 : 0 < k) (h : Recs enc w A xs) {m : Nat} (hm : m < xs.length) :
    ∃ b o, A = some ⟨b, o, none⟩ ∧ b < w.heap.size ∧ ∀ i, (hi : i < xs.length) → ∀ j u, (enc xs[i])[j]? = some u → w.cell? ⟨b, o + (i * k + j), none⟩ = some u := by
  have hget : ∀ i, (hi : i < xs.length) → ∀ j u, (enc xs[i])[j]? = some u → (flatK enc xs)[i * k + j]? = some u := by
    intro i hi j u hu
    have hj : j < k := by have := (List.getElem?_eq_some_iff.1 hu).1; rw [hk] at this; exact this
    rw [flatK_get enc k hk xs i j hi hj]
    exact hu
  have hlen : m * k < (flatK enc xs).length := by
    rw [flatK_len enc k hk]
    exact Nat.mul_lt_mul_of_pos_right hm k0
  obtain ⟨b, o, rfl, hc⟩ := Sl.at h hlen
  have h0 : 0 < (enc xs[m]).length := by rw [hk]; exact k0
  refine ⟨b, o, rfl, World.block_lt_of_cell? w _ (hc _ _ (hget m hm 0 _ (List.getElem?_eq_getElem h0))), fun i hi j u hu => hc _ _ (hget i hi j u hu)⟩

/-- a slice of groups -/
def Grps (w : World) (A : Option Addr) (gs : List Grp) : Prop := Recs Grp.cells w A gs
theorem Grps.below {w w' : World} {A : Option Addr} {gs : List Grp} (h : Grps w A gs) (hb : Below w.heap.size w w') : Grps w' A gs := Recs.below h hb
theorem Grps.at {w : World} {A : Option Addr} {gs : List Grp} (h : Grps w A gs) {m : Nat} (hm : m < gs.length) :
    ∃ b o, A = some ⟨b, o, none⟩ ∧ b < w.heap.size ∧ ∀ i, (hi : i < gs.length) → w.cell? ⟨b, o + i * 3, none⟩ = some (.string gs[i].name) ∧ w.cell? ⟨b, o + i * 3 + 1, none⟩ = some (.int .i64 gs[i].lo) ∧ w.cell? ⟨b, o + i * 3 + 2, none⟩ = some (.int .i64 gs[i].hi) := by
  obtain ⟨b, o, rfl, hb, hc⟩ := Recs.at 3 (fun _ => rfl) (by omega) h hm
  exact ⟨b, o, rfl, hb, fun i hi => ⟨hc i hi 0 _ rfl, hc i hi 1 _ rfl, hc i hi 2 _ rfl⟩⟩

/-- a slice of elements -/
def Elts (w : World) (A : Option Addr) (es : List Elt) : Prop := Recs Elt.cells w A es
theorem Elts.below {w w' : World} {A : Option Addr} {es : List Elt} (h : Elts w A es) (hb : Below w.heap.size w w') : Elts w' A es := Recs.below h hb
theorem Elts.at {w : World} {A : Option Addr} {es : List Elt} (h : Elts w A es) {m : Nat} (hm : m < es.length) :
    ∃ b o, A = some ⟨b, o, none⟩ ∧ b < w.heap.size ∧ ∀ i, (hi : i < es.length) → w.cell? ⟨b, o + i * 4, none⟩ = some (.int .i64 es[i].p) ∧ w.cell? ⟨b, o + i * 4 + 1, none⟩ = some (.int .i64 es[i].s) ∧ w.cell? ⟨b, o + i * 4 + 2, none⟩ = some (.int .i64 es[i].t) ∧ w.cell? ⟨b, o + i * 4 + 3, none⟩ = some (.bool es[i].v) := by
  obtain ⟨b, o, rfl, hb, hc⟩ := Recs.at 4 (fun _ => rfl) (by omega) h hm
  exact ⟨b, o, rfl, hb, fun i hi => ⟨hc i hi 0 _ rfl, hc i hi 1 _ rfl, hc i hi 2 _ rfl, hc i hi 3 _ rfl⟩⟩

/-- two slice values that hold an entry -/
structure EntV (w : World) (v : Value × Value) (x : Ent) : Prop where
  ex : ∃ A c B d, v = (.slice A x.codes.length c, .slice B x.elems.length d) ∧ Ints w A x.codes ∧ Elts w B x.elems

theorem EntV.below {w w' : World} {v : Value × Value} {x : Ent} (h : EntV w v x) (hb : Below w.heap.size w w') : EntV w' v x := by
  obtain ⟨A, c, B, d, hv, h1, h2⟩ := h.ex
  exact ⟨A, c, B, d, hv, h1.below hb, h2.below hb⟩

/-- a slice of entries -/
def Ents (w : World) (A : Option Addr) (xs : List Ent) : Prop :=
  ∃ vs : List (Value × Value), vs.length = xs.length ∧ Recs (fun v => [v.1, v.2]) w A vs ∧ ∀ i, (hi : i < xs.length) → (hv : i < vs.length) → EntV w vs[i] xs[i]

theorem Ents.below {w w' : World} {A : Option Addr} {xs : List Ent} (h : Ents w A xs) (hb : Below w.heap.size w w') : Ents w' A xs := by
  obtain ⟨vs, h1, h2, h3⟩ := h
  exact ⟨vs, h1, h2.below hb, fun i hi hv => (h3 i hi hv).below hb⟩

theorem Ents.at {w : World} {A : Option Addr} {xs : List Ent} (h : Ents w A xs) {m : Nat} (hm : m < xs.length) :
    ∃ b o, A = some ⟨b, o, none⟩ ∧ b < w.heap.size ∧ ∀ i, (hi : i < xs.length) → ∃ C c E d, w.cell? ⟨b, o + i * 2, none⟩ = some (.slice C xs[i].codes.length c) ∧ w.cell? ⟨b, o + i * 2 + 1, none⟩ = some (.slice E xs[i].elems.length d) ∧ Ints w C xs[i].codes ∧ Elts w E xs[i].elems := by
  obtain ⟨vs, h1, h2, h3⟩ := h
  obtain ⟨b, o, rfl, hb, hc⟩ := Recs.at 2 (fun _ => rfl) (by omega) h2 (m := m) (by omega)
  refine ⟨b, o, rfl, hb, fun i hi => ?_⟩
  obtain ⟨C, c, E, d, hv, e1, e2⟩ := (h3 i hi (by omega)).ex
  refine ⟨C, c, E, d, ?_, ?_, e1, e2⟩
  · have := hc i (by omega) 0 vs[i].1 rfl; rw [hv] at this; exact this
  · have := hc i (by omega) 1 vs[i].2 rfl; rw [hv] at this; exact this

/-- the value of a collation -/
def colV (A : Option Addr) (n a : Nat) (B : Option Addr) (m b : Nat) (c : Col) : Value := .agg #[.slice A n a, .slice B m b, .int .i64 c.base, .int .i64 c.second, .int .i64 c.third]
structure ColAt (w : World) (A : Option Addr) (n : Nat) (B : Option Addr) (m : Nat) (c : Col) : Prop where
  ents : Ents w A c.ents
  grps : Grps w B c.grps
  hn : c.ents.length = n
  hm : c.grps.length = m
  hs : ∀ g ∈ c.grps, g.name.size ≤ 9223372036854775807
theorem ColAt.below {w w' : World} {A : Option Addr} {n : Nat} {B : Option Addr} {m : Nat} {c : Col} (h : ColAt w A n B m c) (hb : Below w.heap.size w w') : ColAt w' A n B m c := ⟨h.ents.below hb, h.grps.below hb, h.hn, h.hm, h.hs⟩

/-! the first error -/
def inR (lo hi n : Int) : Bool := decide (lo ≤ n) && decide (n ≤ hi)
theorem inR_true {lo hi n : Int} (h1 : lo ≤ n) (h2 : n ≤ hi) : inR lo hi n = true := by simp [inR, h1, h2]
theorem inR_lo {lo hi n : Int} (h : n < lo) : inR lo hi n = false := by simp [inR]; omega
theorem inR_hi {lo hi n : Int} (h : hi < n) : inR lo hi n = false := by simp [inR]; omega
theorem inR_iff {lo hi n : Int} : inR lo hi n = true ↔ lo ≤ n ∧ n ≤ hi := by simp [inR]
theorem inR_false {lo hi n : Int} : inR lo hi n = false ↔ n < lo ∨ hi < n := by simp [inR]; omega

def eltErr (e : Elt) : Int :=
  if e.p < 0 ∨ 65535 < e.p ∨ e.s < 0 ∨ 65535 < e.s ∨ e.t < 0 ∨ 65535 < e.t then 1
  else if (e.p ≠ 0 ∧ (e.s = 0 ∨ e.t = 0)) ∨ (e.s ≠ 0 ∧ e.t = 0) ∨ (e.v = true ∧ e.p = 0) then 11 else 0

/-- the first nonzero number -/
def firstErr : List Int → Int
  | [] => 0
  | x :: r => if x = 0 then firstErr r else x

/-- the error of an entry by itself -/
def entErr1 (base : Int) (x : Ent) : Int :=
  if x.codes.length < 1 ∨ 8 < x.codes.length ∨ 16 < x.elems.length then 2
  else if x.codes.any (fun c => decide (c < 0 ∨ 1114111 < c)) then 1
  else if firstErr (x.elems.map eltErr) ≠ 0 then firstErr (x.elems.map eltErr)
  else if x.elems.any (fun e => decide (base ≤ e.p)) then 1 else 0
/-- the errors of entries -/
def entsErr (base : Int) : List Ent → Option Ent → Int
  | [], _ => 0
  | x :: r, prev => if entErr1 base x ≠ 0 then entErr1 base x else match prev with
    | none => entsErr base r (some x)
    | some y => if 0 ≤ cmpL y.codes x.codes then 4 else entsErr base r (some x)

def gap : List Grp → Bool
  | g :: h :: r => decide (h.lo ≠ g.hi + 1) || gap (h :: r)
  | _ => false
def badG (base : Int) (g : Grp) : Prop := g.lo < 1 ∨ g.hi < g.lo ∨ base ≤ g.hi
instance (base : Int) (g : Grp) : Decidable (badG base g) := by unfold badG; exact inferInstance
def grpErr (base : Int) (gs : List Grp) : Int :=
  if gs.any (fun g => !nameOk g.name) then 6
  else if ¬ (gs.map Grp.name).Nodup then 5
  else if gs.any (fun g => decide (badG base g)) then 1
  else if gap gs then 4 else 0
def colErr (c : Col) : Int :=
  if c.base < 1 ∨ 65502 < c.base ∨ inR 1 65535 c.second = false ∨ inR 1 65535 c.third = false then 1
  else if grpErr c.base c.grps ≠ 0 then grpErr c.base c.grps
  else entsErr c.base c.ents none

theorem anyT {α : Type} {p : α → Bool} {xs : List α} {k : Nat} (hk : k < xs.length) (h : p xs[k] = true) : xs.any p = true := List.any_eq_true.2 ⟨xs[k], List.getElem_mem hk, h⟩
theorem anyF {α : Type} {p : α → Bool} {xs : List α} (h : ∀ t, (ht : t < xs.length) → p xs[t] = false) : xs.any p = false := by
  rw [List.any_eq_false]
  intro x hx
  obtain ⟨i, hi, rfl⟩ := List.getElem_of_mem hx
  rw [h i hi]; simp

theorem gap_true {gs : List Grp} {k : Nat} (hk : k + 1 < gs.length) (h : gs[k + 1].lo ≠ gs[k].hi + 1) : gap gs = true := by
  induction gs generalizing k with
  | nil => simp at hk
  | cons a r ih =>
    cases r with
    | nil => simp at hk
    | cons b r =>
      cases k with
      | zero => simp only [List.getElem_cons_zero, List.getElem_cons_succ] at h; simp [gap, h]
      | succ k =>
        simp only [gap, Bool.or_eq_true]
        right
        exact ih (k := k) (by simpa using hk) (by simpa using h)
theorem gap_false {gs : List Grp} (h : ∀ t, (ht : t + 1 < gs.length) → gs[t + 1].lo = gs[t].hi + 1) : gap gs = false := by
  induction gs with
  | nil => rfl
  | cons a r ih =>
    cases r with
    | nil => rfl
    | cons b r =>
      have h0 := h 0 (by simp)
      simp only [List.getElem_cons_zero, List.getElem_cons_succ] at h0
      simp only [gap, Bool.or_eq_false_iff]
      refine ⟨by simpa using h0, ih fun t ht => ?_⟩
      have := h (t + 1) (by simpa using ht)
      simpa using this

section
variable {base : Int} {gs : List Grp}
theorem grp6 {k : Nat} (hk : k < gs.length) (h : nameOk gs[k].name = false) : grpErr base gs = 6 := by
  unfold grpErr; rw [if_pos (anyT hk (by simp [h]))]
theorem grp_names (h : ∀ t, (ht : t < gs.length) → nameOk gs[t].name = true) : gs.any (fun g => !nameOk g.name) = false := anyF fun t ht => by simp [h t ht]
theorem grp5 (h6 : ∀ t, (ht : t < gs.length) → nameOk gs[t].name = true) (h : ¬ (gs.map Grp.name).Nodup) : grpErr base gs = 5 := by
  unfold grpErr; rw [if_neg (by rw [grp_names h6]; simp), if_pos h]
theorem grp1 (h6 : ∀ t, (ht : t < gs.length) → nameOk gs[t].name = true) (h5 : (gs.map Grp.name).Nodup) {k : Nat} (hk : k < gs.length) (h : badG base gs[k]) : grpErr base gs = 1 := by
  unfold grpErr; rw [if_neg (by rw [grp_names h6]; simp), if_neg (by simpa using h5), if_pos (anyT hk (by simpa using h))]
theorem grp4 (h6 : ∀ t, (ht : t < gs.length) → nameOk gs[t].name = true) (h5 : (gs.map Grp.name).Nodup) (h1 : ∀ t, (ht : t < gs.length) → ¬ badG base gs[t]) {k : Nat} (hk : k + 1 < gs.length) (h : gs[k + 1].lo ≠ gs[k].hi + 1) : grpErr base gs = 4 := by
  unfold grpErr; rw [if_neg (by rw [grp_names h6]; simp), if_neg (by simpa using h5), if_neg (by rw [anyF fun t ht => by simpa using h1 t ht]; simp), if_pos (gap_true hk h)]
theorem grp0 (h6 : ∀ t, (ht : t < gs.length) → nameOk gs[t].name = true) (h5 : (gs.map Grp.name).Nodup) (h1 : ∀ t, (ht : t < gs.length) → ¬ badG base gs[t]) (h : ∀ t, (ht : t + 1 < gs.length) → gs[t + 1].lo = gs[t].hi + 1) : grpErr base gs = 0 := by
  unfold grpErr; rw [if_neg (by rw [grp_names h6]; simp), if_neg (by simpa using h5), if_neg (by rw [anyF fun t ht => by simpa using h1 t ht]; simp), if_neg (by rw [gap_false h]; simp)]

theorem all_up {α : Type} {xs : List α} {P : α → Prop} {i : Nat} (hlt : i < xs.length) (h : ∀ t, (ht : t < xs.length) → t < i → P xs[t]) (hi : P xs[i]) : ∀ t, (ht : t < xs.length) → t < i + 1 → P xs[t] := by
  intro t ht g
  by_cases e : t < i
  · exact h t ht e
  · obtain rfl : t = i := by omega
    exact hi
theorem two_up {α : Type} {xs : List α} {P : α → α → Prop} {i : Nat} (hlt : i + 1 < xs.length) (h : ∀ t, (ht : t + 1 < xs.length) → t < i → P xs[t] xs[t + 1]) (hi : P xs[i] xs[i + 1]) : ∀ t, (ht : t + 1 < xs.length) → t < i + 1 → P xs[t] xs[t + 1] := by
  intro t ht g
  by_cases e : t < i
  · exact h t ht e
  · obtain rfl : t = i := by omega
    exact hi

/-- the names of the first k groups -/
def nms (gs : List Grp) (k : Nat) : List ByteArray := (gs.take k).map Grp.name
theorem nms_succ {k : Nat} (hk : k < gs.length) : nms gs (k + 1) = nms gs k ++ [gs[k].name] := by
  unfold nms; rw [List.take_succ_eq_append_getElem hk, List.map_append]; rfl
theorem nms_all : nms gs gs.length = gs.map Grp.name := by unfold nms; rw [List.take_length]
theorem nms_dup {k : Nat} (hk : k < gs.length) (h : gs[k].name ∈ nms gs k) : ¬ (gs.map Grp.name).Nodup := by
  intro hn
  have hs : (nms gs (k + 1)).Sublist (gs.map Grp.name) := by
    unfold nms; exact (List.take_sublist _ _).map _
  have h1 := hn.sublist hs
  rw [nms_succ hk, List.nodup_append] at h1
  exact h1.2.2 _ h _ (List.mem_singleton.2 rfl) rfl
theorem nms_nodup {k : Nat} (hk : k < gs.length) (hn : (nms gs k).Nodup) (h : gs[k].name ∉ nms gs k) : (nms gs (k + 1)).Nodup := by
  rw [nms_succ hk, List.nodup_append]
  refine ⟨hn, by simp, fun a ha b hb e => ?_⟩
  rw [List.mem_singleton] at hb
  subst hb; subst e
  exact h ha
end

end Go.Proofs.Ytpamkbbmbeeheaa
