/- Mappings and ranges: how they lie in memory; which error the check of mappings finds first; which mapping a number has. Plain. -/
import Derived.Test.YtpamkbbmbeeheaaColl
import Derived.Test.YtpamkbbmbeeheaaElement
namespace Go.Proofs.Ytpamkbbmbeeheaa
open Go.RowKit

/-- a mapping -/
structure Mp where
  frm : Int
  to : List Int
  tag : ByteArray
  deriving DecidableEq
/-- a range -/
structure Rg where
  lo : Int
  hi : Int
  deriving DecidableEq
def Rg.cells (r : Rg) : List Value := [.int .i64 r.lo, .int .i64 r.hi]
def Rgs (w : World) (A : Option Addr) (rs : List Rg) : Prop := Recs Rg.cells w A rs
theorem Rgs.below {w w' : World} {A : Option Addr} {rs : List Rg} (h : Rgs w A rs) (hb : Below w.heap.size w w') : Rgs w' A rs := Recs.below h hb
theorem Rgs.at {w : World} {A : Option Addr} {rs : List Rg} (h : Rgs w A rs) {m : Nat} (hm : m < rs.length) :
    ∃ b o, A = some ⟨b, o, none⟩ ∧ b < w.heap.size ∧ ∀ i, (hi : i < rs.length) → w.cell? ⟨b, o + i * 2, none⟩ = some (.int .i64 rs[i].lo) ∧ w.cell? ⟨b, o + i * 2 + 1, none⟩ = some (.int .i64 rs[i].hi) := by
  obtain ⟨b, o, rfl, hb, hc⟩ := Recs.at 2 (fun _ => rfl) (by omega) h hm
  exact ⟨b, o, rfl, hb, fun i hi => ⟨hc i hi 0 _ rfl, hc i hi 1 _ rfl⟩⟩

def mpC (p : Mp × Value) : List Value := [.int .i64 p.1.frm, p.2, .string p.1.tag]
/-- a slice of mappings -/
def Mps (w : World) (A : Option Addr) (ms : List Mp) : Prop :=
  ∃ vs : List Value, vs.length = ms.length ∧ Recs mpC w A (ms.zip vs) ∧ ∀ i, (hi : i < ms.length) → (hv : i < vs.length) → ∃ C c, vs[i] = .slice C ms[i].to.length c ∧ ms[i].to.length ≤ c ∧ Ints w C ms[i].to
theorem Mps.below {w w' : World} {A : Option Addr} {ms : List Mp} (h : Mps w A ms) (hb : Below w.heap.size w w') : Mps w' A ms := by
  obtain ⟨vs, h1, h2, h3⟩ := h
  refine ⟨vs, h1, h2.below hb, fun i hi hv => ?_⟩
  obtain ⟨C, c, e1, e2, e3⟩ := h3 i hi hv
  exact ⟨C, c, e1, e2, e3.below hb⟩
theorem Mps.nil (w : World) (A : Option Addr) : Mps w A [] := ⟨[], rfl, Sl.nil _ _, fun _ hi => absurd hi (Nat.not_lt_zero _)⟩
theorem Mps.at {w : World} {A : Option Addr} {ms : List Mp} (h : Mps w A ms) {m : Nat} (hm : m < ms.length) :
    ∃ b o, A = some ⟨b, o, none⟩ ∧ b < w.heap.size ∧ ∀ i, (hi : i < ms.length) → ∃ C c, w.cell? ⟨b, o + i * 3, none⟩ = some (.int .i64 ms[i].frm) ∧ w.cell? ⟨b, o + i * 3 + 1, none⟩ = some (.slice C ms[i].to.length c) ∧ w.cell? ⟨b, o + i * 3 + 2, none⟩ = some (.string ms[i].tag) ∧ ms[i].to.length ≤ c ∧ Ints w C ms[i].to := by
  obtain ⟨vs, h1, h2, h3⟩ := h
  obtain ⟨b, o, rfl, hb, hc⟩ := Recs.at 3 (fun _ => rfl) (by omega) h2 (m := m) (by rw [List.length_zip]; omega)
  refine ⟨b, o, rfl, hb, fun i hi => ?_⟩
  obtain ⟨C, c, e1, e2, e3⟩ := h3 i hi (by omega)
  have hz : i < (ms.zip vs).length := by rw [List.length_zip]; omega
  have hg : (ms.zip vs)[i] = (ms[i], vs[i]'(by omega)) := List.getElem_zip
  refine ⟨C, c, ?_, ?_, ?_, e2, e3⟩
  · have := hc i hz 0 (.int .i64 ms[i].frm) (by rw [hg]; rfl); exact this
  · have := hc i hz 1 (.slice C ms[i].to.length c) (by rw [hg, e1]; rfl); exact this
  · have := hc i hz 2 (.string ms[i].tag) (by rw [hg]; rfl); exact this

/-- bounds on the sizes -/
structure MpsSz (ms : List Mp) : Prop where
  n : ms.length ≤ 1048576
  e : ∀ i, (hi : i < ms.length) → ms[i].to.length ≤ 1048576 ∧ ms[i].tag.size ≤ 9223372036854775807

/-! the first error -/
def bl (a b : ByteArray) : Bool := Op.bytesLess a.toList b.toList
/-- the order of strings -/
def cmpS (a b : ByteArray) : Int := if bl a b = true then -1 else if bl b a = true then 1 else 0
/-- the order of mappings -/
def cmpM (a b : Mp) : Int := if a.frm < b.frm then -1 else if b.frm < a.frm then 1 else cmpS a.tag b.tag
def befM (a b : Mp) : Bool := decide (a.frm < b.frm) || (a.frm == b.frm && bl a.tag b.tag)
def keyM (m : Mp) : Int × ByteArray := (m.frm, m.tag)
def mpBad (m : Mp) : Bool := !inR 0 1114111 m.frm || m.to.any (fun z => !inR 0 1114111 z)
def tagBad (m : Mp) : Bool := decide (¬ m.tag.size = 0) && !nameOk m.tag
/-- each mapping before the next one -/
def ascM : List Mp → Bool
  | a :: b :: r => decide (cmpM a b < 0) && ascM (b :: r)
  | _ => true
def partsErr (ms : List Mp) : Int := if ms.any mpBad then 1 else if ms.any (fun m => decide (64 < m.to.length)) then 2 else if ms.any tagBad then 6 else 0
def mapErr (ms : List Mp) : Int := if partsErr ms ≠ 0 then partsErr ms else if ascM ms then 0 else if (ms.map keyM).Nodup then 4 else 5

theorem bytesLess_irrefl : ∀ a : List UInt8, Op.bytesLess a a = false
  | [] => rfl
  | x :: r => by simp [Op.bytesLess, bytesLess_irrefl r]
theorem bytesLess_trans : ∀ {a b c : List UInt8}, Op.bytesLess a b = true → Op.bytesLess b c = true → Op.bytesLess a c = true
  | [], [], _, h, _ => by simp [Op.bytesLess] at h
  | [], _ :: _, [], _, h => by simp [Op.bytesLess] at h
  | [], _ :: _, _ :: _, _, _ => by simp [Op.bytesLess]
  | _ :: _, [], _, h, _ => by simp [Op.bytesLess] at h
  | _ :: _, _ :: _, [], _, h => by simp [Op.bytesLess] at h
  | x :: a, y :: b, z :: c, h1, h2 => by
    simp only [Op.bytesLess, Bool.or_eq_true, Bool.and_eq_true, decide_eq_true_eq, beq_iff_eq] at *
    rcases h1 with h1 | ⟨rfl, h1⟩
    · rcases h2 with h2 | ⟨rfl, h2⟩
      · exact .inl (UInt8.lt_trans h1 h2)
      · exact .inl h1
    · rcases h2 with h2 | ⟨rfl, h2⟩
      · exact .inl h2
      · exact .inr ⟨rfl, bytesLess_trans h1 h2⟩
theorem bytesLess_total : ∀ {a b : List UInt8}, Op.bytesLess a b = false → Op.bytesLess b a = false → a = b
  | [], [], _, _ => rfl
  | [], _ :: _, h, _ => by simp [Op.bytesLess] at h
  | _ :: _, [], _, h => by simp [Op.bytesLess] at h
  | x :: a, y :: b, h1, h2 => by
    simp only [Op.bytesLess, Bool.or_eq_false_iff, Bool.and_eq_false_iff, decide_eq_false_iff_not, beq_eq_false_iff_ne] at *
    have e : x = y := UInt8.le_antisymm (UInt8.not_lt.1 h2.1) (UInt8.not_lt.1 h1.1)
    subst e
    have i1 : Op.bytesLess a b = false := by rcases h1.2 with h | h; exact absurd rfl h; exact h
    have i2 : Op.bytesLess b a = false := by rcases h2.2 with h | h; exact absurd rfl h; exact h
    rw [bytesLess_total i1 i2]
theorem bl_asymm {a b : ByteArray} (h : bl a b = true) : bl b a = false := by
  cases h' : bl b a with
  | false => rfl
  | true =>
    have := bytesLess_trans h h'
    rw [bytesLess_irrefl] at this
    cases this
theorem bl_trans {a b c : ByteArray} (h : bl a b = true) (h' : bl b c = true) : bl a c = true := bytesLess_trans h h'
theorem bl_self (a : ByteArray) : bl a a = false := bytesLess_irrefl _
theorem bl_total {a b : ByteArray} (h : bl a b = false) (h' : bl b a = false) : a = b := str_inj (bytesLess_total h h')
theorem befM_iff (a b : Mp) : befM a b = decide (cmpM a b < 0) := by
  rw [Bool.eq_iff_iff]
  simp only [befM, cmpM, cmpS, Bool.or_eq_true, Bool.and_eq_true, decide_eq_true_eq, beq_iff_eq]
  by_cases h1 : a.frm < b.frm
  · simp [h1]
  · by_cases h2 : b.frm < a.frm
    · simp [h1, h2]; omega
    · have e : a.frm = b.frm := by omega
      by_cases hl : bl a.tag b.tag = true
      · simp [e, hl]
      · by_cases hr : bl b.tag a.tag = true
        · simp [e, hl, hr]
        · simp [e, hl, hr]
theorem cmpM_lt_trans {a b c : Mp} (h1 : cmpM a b < 0) (h2 : cmpM b c < 0) : cmpM a c < 0 := by
  have e1 : befM a b = true := by rw [befM_iff]; simpa using h1
  have e2 : befM b c = true := by rw [befM_iff]; simpa using h2
  have e3 : befM a c = true := by
    simp only [befM, Bool.or_eq_true, Bool.and_eq_true, decide_eq_true_eq, beq_iff_eq] at *
    rcases e1 with e1 | ⟨e1, f1⟩
    · rcases e2 with e2 | ⟨e2, f2⟩
      · left; omega
      · left; omega
    · rcases e2 with e2 | ⟨e2, f2⟩
      · left; omega
      · right; exact ⟨by omega, bl_trans f1 f2⟩
  rw [befM_iff] at e3
  simpa using e3
theorem cmpM_lt_ne {a b : Mp} (h : cmpM a b < 0) : keyM a ≠ keyM b := fun e => by
  injection e with e1 e2
  unfold cmpM cmpS at h
  rw [e1, e2] at h
  simp [bl_self] at h
theorem ascM_pairwise : ∀ {ms : List Mp}, ascM ms = true → ms.Pairwise (fun a b => cmpM a b < 0)
  | [], _ => List.Pairwise.nil
  | [_], _ => List.pairwise_singleton _ _
  | a :: b :: r, h => by
    simp only [ascM, Bool.and_eq_true, decide_eq_true_eq] at h
    have ih := ascM_pairwise h.2
    refine List.pairwise_cons.2 ⟨fun x hx => ?_, ih⟩
    rcases List.mem_cons.1 hx with rfl | hx
    · exact h.1
    · exact cmpM_lt_trans h.1 ((List.pairwise_cons.1 ih).1 x hx)
theorem ascM_nodup {ms : List Mp} (h : ascM ms = true) : (ms.map keyM).Nodup := by
  unfold List.Nodup
  rw [List.pairwise_map]
  exact (ascM_pairwise h).imp cmpM_lt_ne
/-- the reference's order of errors gives the same -/
def refMapErr (ms : List Mp) : Int := if partsErr ms ≠ 0 then partsErr ms else if (ms.map keyM).Nodup then (if ascM ms then 0 else 4) else 5
theorem refMapErr_eq (ms : List Mp) : refMapErr ms = mapErr ms := by
  unfold refMapErr mapErr
  by_cases h1 : partsErr ms = 0
  · simp only [h1, ne_eq, not_true_eq_false, if_false]
    cases h2 : ascM ms with
    | true => rw [if_pos (ascM_nodup h2)]; rfl
    | false => by_cases h3 : (ms.map keyM).Nodup <;> simp [h3]
  · simp [h1]

theorem ascM_true {ms : List Mp} (h : ∀ t, (ht : t + 1 < ms.length) → cmpM ms[t] ms[t + 1] < 0) : ascM ms = true := by
  induction ms with
  | nil => rfl
  | cons a r ih =>
    cases r with
    | nil => rfl
    | cons b r =>
      have h0 := h 0 (by simp)
      simp only [List.getElem_cons_zero, List.getElem_cons_succ] at h0
      simp only [ascM, Bool.and_eq_true, decide_eq_true_eq]
      refine ⟨h0, ih fun t ht => ?_⟩
      have := h (t + 1) (by simpa using ht)
      simpa using this
theorem ascM_false {ms : List Mp} {k : Nat} (hk : k + 1 < ms.length) (h : ¬ cmpM ms[k] ms[k + 1] < 0) : ascM ms = false := by
  cases e : ascM ms with
  | false => rfl
  | true =>
    have := List.pairwise_iff_getElem.1 (ascM_pairwise e) k (k + 1) (by omega) hk (by omega)
    exact absurd this h

/-- the target of a number with a tag -/
def getM (ms : List Mp) (x : Int) (tag : ByteArray) : Option (List Int) := (ms.find? (fun m => decide (keyM m = (x, tag)))).map Mp.to
theorem getM_at {ms : List Mp} {x : Int} {tag : ByteArray} {k : Nat} (hk : k < ms.length) (h : keyM ms[k] = (x, tag)) (hb : ∀ t, (ht : t < ms.length) → t < k → keyM ms[t] ≠ (x, tag)) : getM ms x tag = some ms[k].to := by
  unfold getM
  rw [List.find?_eq_some_iff_getElem.2 ⟨by simpa using h, k, hk, rfl, fun j hj => by simp [hb j (by omega) hj]⟩]
  rfl
theorem getM_none {ms : List Mp} {x : Int} {tag : ByteArray} (h : ∀ t, (ht : t < ms.length) → keyM ms[t] ≠ (x, tag)) : getM ms x tag = none := by
  unfold getM
  rw [List.find?_eq_none.2]
  · rfl
  · intro m hm
    obtain ⟨t, ht, rfl⟩ := List.getElem_of_mem hm
    simp [h t ht]
def getV (ms : List Mp) (x : Int) (tag : ByteArray) : Option (List Int) := if mapErr ms = 0 then getM ms x tag else none

/-- membership in a set -/
def hasR (rs : List Rg) (c : Int) : Bool := inR 0 1114111 c && rs.any (fun r => inR r.lo r.hi c)

end Go.Proofs.Ytpamkbbmbeeheaa
