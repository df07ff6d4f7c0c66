/- Texts that are merged into one file: Map, OSpans, OCheckPlain, HgPlain. -/
import Derived.Test.YtjglanjfgbipmaaDoorG01
/- Mappings and ranges: how they lie in memory; which error the check of mappings finds first; which mapping a number has. Plain. -/
namespace Go.Proofs.YtjglanjfgbipmaaDoor
open Go.RowKit

/-- a mapping -/
structure Mp where
  frm : Int
  to : List Int
  tag : ByteArray
  deriving DecidableEq
/-- a range -/
structure Rg where
  lo : Int
  hi : Int
  deriving DecidableEq
def Rg.cells (r : Rg) : List Value := [.int .i64 r.lo, .int .i64 r.hi]
def Rgs (w : World) (A : Option Addr) (rs : List Rg) : Prop := Recs Rg.cells w A rs
theorem Rgs.below {w w' : World} {A : Option Addr} {rs : List Rg} (h : Rgs w A rs) (hb : Below w.heap.size w w') : Rgs w' A rs := Recs.below h hb
theorem Rgs.at {w : World} {A : Option Addr} {rs : List Rg} (h : Rgs w A rs) {m : Nat} (hm : m < rs.length) :
    ∃ b o, A = some ⟨b, o, none⟩ ∧ b < w.heap.size ∧ ∀ i, (hi : i < rs.length) → w.cell? ⟨b, o + i * 2, none⟩ = some (.int .i64 rs[i].lo) ∧ w.cell? ⟨b, o + i * 2 + 1, none⟩ = some (.int .i64 rs[i].hi) := by
  obtain ⟨b, o, rfl, hb, hc⟩ := Recs.at 2 (fun _ => rfl) (by omega) h hm
  exact ⟨b, o, rfl, hb, fun i hi => ⟨hc i hi 0 _ rfl, hc i hi 1 _ rfl⟩⟩

def mpC (p : Mp × Value) : List Value := [.int .i64 p.1.frm, p.2, .string p.1.tag]
/-- a slice of mappings -/
def Mps (w : World) (A : Option Addr) (ms : List Mp) : Prop :=
  ∃ vs : List Value, vs.length = ms.length ∧ Recs mpC w A (ms.zip vs) ∧ ∀ i, (hi : i < ms.length) → (hv : i < vs.length) → ∃ C c, vs[i] = .slice C ms[i].to.length c ∧ ms[i].to.length ≤ c ∧ Ints w C ms[i].to
theorem Mps.below {w w' : World} {A : Option Addr} {ms : List Mp} (h : Mps w A ms) (hb : Below w.heap.size w w') : Mps w' A ms := by
  obtain ⟨vs, h1, h2, h3⟩ := h
  refine ⟨vs, h1, h2.below hb, fun i hi hv => ?_⟩
  obtain ⟨C, c, e1, e2, e3⟩ := h3 i hi hv
  exact ⟨C, c, e1, e2, e3.below hb⟩
theorem Mps.nil (w : World) (A : Option Addr) : Mps w A [] := ⟨[], rfl, Sl.nil _ _, fun _ hi => absurd hi (Nat.not_lt_zero _)⟩
theorem Mps.at {w : World} {A : Option Addr} {ms : List Mp} (h : Mps w A ms) {m : Nat} (hm : m < ms.length) :
    ∃ b o, A = some ⟨b, o, none⟩ ∧ b < w.heap.size ∧ ∀ i, (hi : i < ms.length) → ∃ C c, w.cell? ⟨b, o + i * 3, none⟩ = some (.int .i64 ms[i].frm) ∧ w.cell? ⟨b, o + i * 3 + 1, none⟩ = some (.slice C ms[i].to.length c) ∧ w.cell? ⟨b, o + i * 3 + 2, none⟩ = some (.string ms[i].tag) ∧ ms[i].to.length ≤ c ∧ Ints w C ms[i].to := by
  obtain ⟨vs, h1, h2, h3⟩ := h
  obtain ⟨b, o, rfl, hb, hc⟩ := Recs.at 3 (fun _ => rfl) (by omega) h2 (m := m) (by rw [List.length_zip]; omega)
  refine ⟨b, o, rfl, hb, fun i hi => ?_⟩
  obtain ⟨C, c, e1, e2, e3⟩ := h3 i hi (by omega)
  have hz : i < (ms.zip vs).length := by rw [List.length_zip]; omega
  have hg : (ms.zip vs)[i] = (ms[i], vs[i]'(by omega)) := List.getElem_zip
  refine ⟨C, c, ?_, ?_, ?_, e2, e3⟩
  · have := hc i hz 0 (.int .i64 ms[i].frm) (by rw [hg]; rfl); exact this
  · have := hc i hz 1 (.slice C ms[i].to.length c) (by rw [hg, e1]; rfl); exact this
  · have := hc i hz 2 (.string ms[i].tag) (by rw [hg]; rfl); exact this

/-- bounds on the sizes -/
structure MpsSz (ms : List Mp) : Prop where
  n : ms.length ≤ 1048576
  e : ∀ i, (hi : i < ms.length) → ms[i].to.length ≤ 1048576 ∧ ms[i].tag.size ≤ 9223372036854775807

/-! the first error -/
def bl (a b : ByteArray) : Bool := Op.bytesLess a.toList b.toList
/-- the order of strings -/
def cmpS (a b : ByteArray) : Int := if bl a b = true then -1 else if bl b a = true then 1 else 0
/-- the order of mappings -/
def cmpM (a b : Mp) : Int := if a.frm < b.frm then -1 else if b.frm < a.frm then 1 else cmpS a.tag b.tag
def befM (a b : Mp) : Bool := decide (a.frm < b.frm) || (a.frm == b.frm && bl a.tag b.tag)
def keyM (m : Mp) : Int × ByteArray := (m.frm, m.tag)
def mpBad (m : Mp) : Bool := !inR 0 1114111 m.frm || m.to.any (fun z => !inR 0 1114111 z)
def tagBad (m : Mp) : Bool := decide (¬ m.tag.size = 0) && !nameOk m.tag
/-- each mapping before the next one -/
def ascM : List Mp → Bool
  | a :: b :: r => decide (cmpM a b < 0) && ascM (b :: r)
  | _ => true
def partsErr (ms : List Mp) : Int := if ms.any mpBad then 1 else if ms.any (fun m => decide (64 < m.to.length)) then 2 else if ms.any tagBad then 6 else 0
def mapErr (ms : List Mp) : Int := if partsErr ms ≠ 0 then partsErr ms else if ascM ms then 0 else if (ms.map keyM).Nodup then 4 else 5

theorem bytesLess_irrefl : ∀ a : List UInt8, Op.bytesLess a a = false
  | [] => rfl
  | x :: r => by simp [Op.bytesLess, bytesLess_irrefl r]
theorem bytesLess_trans : ∀ {a b c : List UInt8}, Op.bytesLess a b = true → Op.bytesLess b c = true → Op.bytesLess a c = true
  | [], [], _, h, _ => by simp [Op.bytesLess] at h
  | [], _ :: _, [], _, h => by simp [Op.bytesLess] at h
  | [], _ :: _, _ :: _, _, _ => by simp [Op.bytesLess]
  | _ :: _, [], _, h, _ => by simp [Op.bytesLess] at h
  | _ :: _, _ :: _, [], _, h => by simp [Op.bytesLess] at h
  | x :: a, y :: b, z :: c, h1, h2 => by
    simp only [Op.bytesLess, Bool.or_eq_true, Bool.and_eq_true, decide_eq_true_eq, beq_iff_eq] at *
    rcases h1 with h1 | ⟨rfl, h1⟩
    · rcases h2 with h2 | ⟨rfl, h2⟩
      · exact .inl (UInt8.lt_trans h1 h2)
      · exact .inl h1
    · rcases h2 with h2 | ⟨rfl, h2⟩
      · exact .inl h2
      · exact .inr ⟨rfl, bytesLess_trans h1 h2⟩
theorem bytesLess_total : ∀ {a b : List UInt8}, Op.bytesLess a b = false → Op.bytesLess b a = false → a = b
  | [], [], _, _ => rfl
  | [], _ :: _, h, _ => by simp [Op.bytesLess] at h
  | _ :: _, [], _, h => by simp [Op.bytesLess] at h
  | x :: a, y :: b, h1, h2 => by
    simp only [Op.bytesLess, Bool.or_eq_false_iff, Bool.and_eq_false_iff, decide_eq_false_iff_not, beq_eq_false_iff_ne] at *
    have e : x = y := UInt8.le_antisymm (UInt8.not_lt.1 h2.1) (UInt8.not_lt.1 h1.1)
    subst e
    have i1 : Op.bytesLess a b = false := by rcases h1.2 with h | h; exact absurd rfl h; exact h
    have i2 : Op.bytesLess b a = false := by rcases h2.2 with h | h; exact absurd rfl h; exact h
    rw [bytesLess_total i1 i2]
theorem bl_asymm {a b : ByteArray} (h : bl a b = true) : bl b a = false := by
  cases h' : bl b a with
  | false => rfl
  | true =>
    have := bytesLess_trans h h'
    rw [bytesLess_irrefl] at this
    cases this
theorem bl_trans {a b c : ByteArray} (h : bl a b = true) (h' : bl b c = true) : bl a c = true := bytesLess_trans h h'
theorem bl_self (a : ByteArray) : bl a a = false := bytesLess_irrefl _
theorem bl_total {a b : ByteArray} (h : bl a b = false) (h' : bl b a = false) : a = b := str_inj (bytesLess_total h h')
theorem befM_iff (a b : Mp) : befM a b = decide (cmpM a b < 0) := by
  rw [Bool.eq_iff_iff]
  simp only [befM, cmpM, cmpS, Bool.or_eq_true, Bool.and_eq_true, decide_eq_true_eq, beq_iff_eq]
  by_cases h1 : a.frm < b.frm
  · simp [h1]
  · by_cases h2 : b.frm < a.frm
    · simp [h1, h2]; omega
    · have e : a.frm = b.frm := by omega
      by_cases hl : bl a.tag b.tag = true
      · simp [e, hl]
      · by_cases hr : bl b.tag a.tag = true
        · simp [e, hl, hr]
        · simp [e, hl, hr]
theorem cmpM_lt_trans {a b c : Mp} (h1 : cmpM a b < 0) (h2 : cmpM b c < 0) : cmpM a c < 0 := by
  have e1 : befM a b = true := by rw [befM_iff]; simpa using h1
  have e2 : befM b c = true := by rw [befM_iff]; simpa using h2
  have e3 : befM a c = true := by
    simp only [befM, Bool.or_eq_true, Bool.and_eq_true, decide_eq_true_eq, beq_iff_eq] at *
    rcases e1 with e1 | ⟨e1, f1⟩
    · rcases e2 with e2 | ⟨e2, f2⟩
      · left; omega
      · left; omega
    · rcases e2 with e2 | ⟨e2, f2⟩
      · left; omega
      · right; exact ⟨by omega, bl_trans f1 f2⟩
  rw [befM_iff] at e3
  simpa using e3
theorem cmpM_lt_ne {a b : Mp} (h : cmpM a b < 0) : keyM a ≠ keyM b := fun e => by
  injection e with e1 e2
  unfold cmpM cmpS at h
  rw [e1, e2] at h
  simp [bl_self] at h
theorem ascM_pairwise : ∀ {ms : List Mp}, ascM ms = true → ms.Pairwise (fun a b => cmpM a b < 0)
  | [], _ => List.Pairwise.nil
  | [_], _ => List.pairwise_singleton _ _
  | a :: b :: r, h => by
    simp only [ascM, Bool.and_eq_true, decide_eq_true_eq] at h
    have ih := ascM_pairwise h.2
    refine List.pairwise_cons.2 ⟨fun x hx => ?_, ih⟩
    rcases List.mem_cons.1 hx with rfl | hx
    · exact h.1
    · exact cmpM_lt_trans h.1 ((List.pairwise_cons.1 ih).1 x hx)
theorem ascM_nodup {ms : List Mp} (h : ascM ms = true) : (ms.map keyM).Nodup := by
  unfold List.Nodup
  rw [List.pairwise_map]
  exact (ascM_pairwise h).imp cmpM_lt_ne
/-- the reference's order of errors gives the same -/
def refMapErr (ms : List Mp) : Int := if partsErr ms ≠ 0 then partsErr ms else if (ms.map keyM).Nodup then (if ascM ms then 0 else 4) else 5
theorem refMapErr_eq (ms : List Mp) : refMapErr ms = mapErr ms := by
  unfold refMapErr mapErr
  by_cases h1 : partsErr ms = 0
  · simp only [h1, ne_eq, not_true_eq_false, if_false]
    cases h2 : ascM ms with
    | true => rw [if_pos (ascM_nodup h2)]; rfl
    | false => by_cases h3 : (ms.map keyM).Nodup <;> simp [h3]
  · simp [h1]

theorem ascM_true {ms : List Mp} (h : ∀ t, (ht : t + 1 < ms.length) → cmpM ms[t] ms[t + 1] < 0) : ascM ms = true := by
  induction ms with
  | nil => rfl
  | cons a r ih =>
    cases r with
    | nil => rfl
    | cons b r =>
      have h0 := h 0 (by simp)
      simp only [List.getElem_cons_zero, List.getElem_cons_succ] at h0
      simp only [ascM, Bool.and_eq_true, decide_eq_true_eq]
      refine ⟨h0, ih fun t ht => ?_⟩
      have := h (t + 1) (by simpa using ht)
      simpa using this
theorem ascM_false {ms : List Mp} {k : Nat} (hk : k + 1 < ms.length) (h : ¬ cmpM ms[k] ms[k + 1] < 0) : ascM ms = false := by
  cases e : ascM ms with
  | false => rfl
  | true =>
    have := List.pairwise_iff_getElem.1 (ascM_pairwise e) k (k + 1) (by omega) hk (by omega)
    exact absurd this h

/-- the target of a number with a tag -/
def getM (ms : List Mp) (x : Int) (tag : ByteArray) : Option (List Int) := (ms.find? (fun m => decide (keyM m = (x, tag)))).map Mp.to
theorem getM_at {ms : List Mp} {x : Int} {tag : ByteArray} {k : Nat} (hk : k < ms.length) (h : keyM ms[k] = (x, tag)) (hb : ∀ t, (ht : t < ms.length) → t < k → keyM ms[t] ≠ (x, tag)) : getM ms x tag = some ms[k].to := by
  unfold getM
  rw [List.find?_eq_some_iff_getElem.2 ⟨by simpa using h, k, hk, rfl, fun j hj => by simp [hb j (by omega) hj]⟩]
  rfl
theorem getM_none {ms : List Mp} {x : Int} {tag : ByteArray} (h : ∀ t, (ht : t < ms.length) → keyM ms[t] ≠ (x, tag)) : getM ms x tag = none := by
  unfold getM
  rw [List.find?_eq_none.2]
  · rfl
  · intro m hm
    obtain ⟨t, ht, rfl⟩ := List.getElem_of_mem hm
    simp [h t ht]
def getV (ms : List Mp) (x : Int) (tag : ByteArray) : Option (List Int) := if mapErr ms = 0 then getM ms x tag else none

/-- membership in a set -/
def hasR (rs : List Rg) (c : Int) : Bool := inR 0 1114111 c && rs.any (fun r => inR r.lo r.hi c)

end Go.Proofs.YtjglanjfgbipmaaDoor
/- Spans asq a slice of structs in memory; the class of a number; which spans are valid. Plain. -/
namespace Go.Proofs.YtjglanjfgbipmaaDoor
open Go.RowKit

/-- a span: from lo to hi a value -/
structure Spn where
  lo : Int
  hi : Int
  val : Int

/-- the cells of spans -/
def flat3 (ss : List Spn) : List Value := ss.flatMap fun s => [.int .i64 s.lo, .int .i64 s.hi, .int .i64 s.val]

theorem flat3_len (ss : List Spn) : (flat3 ss).length = ss.length * 3 := by
  induction ss with
  | nil => rfl
  | cons r rs ih => simp only [flat3, List.flatMap_cons, List.length_append, List.length_cons, List.length_nil] at *; omega

theorem flat3_get (ss : List Spn) (k : Nat) (hk : k < ss.length) :
    (flat3 ss)[k * 3]? = some (.int .i64 ss[k].lo) ∧ (flat3 ss)[k * 3 + 1]? = some (.int .i64 ss[k].hi) ∧ (flat3 ss)[k * 3 + 2]? = some (.int .i64 ss[k].val) := by
  induction ss generalizing k with
  | nil => simp at hk
  | cons r rs ih =>
    cases k with
    | zero => simp [flat3]
    | succ k =>
      have := ih k (by simpa using hk)
      simp only [flat3, List.flatMap_cons, List.cons_append, List.nil_append, List.getElem_cons_succ] at *
      rw [show (k + 1) * 3 = k * 3 + 1 + 1 + 1 by omega]
      simpa using this

/-- the slice at A holds the spans ss -/
def Spans (w : World) (A : Option Addr) (ss : List Spn) : Prop := Sl w A (flat3 ss)

theorem Spans.at {w : World} {A : Option Addr} {ss : List Spn} (h : Spans w A ss) {k : Nat} (hk : k < ss.length) :
    ∃ b o, A = some ⟨b, o, none⟩ ∧ b < w.heap.size ∧ ∀ j, (hj : j < ss.length) → w.cell? ⟨b, o + j * 3, none⟩ = some (.int .i64 ss[j].lo) ∧ w.cell? ⟨b, o + j * 3 + 1, none⟩ = some (.int .i64 ss[j].hi) ∧
      w.cell? ⟨b, o + j * 3 + 2, none⟩ = some (.int .i64 ss[j].val) := by
  obtain ⟨b, o, rfl, hc⟩ := Sl.at h (k := k * 3) (by rw [flat3_len]; omega)
  refine ⟨b, o, rfl, World.block_lt_of_cell? w _ (hc _ _ (flat3_get ss k hk).1), fun j hj => ⟨?_, ?_, ?_⟩⟩
  · exact hc _ _ (flat3_get ss j hj).1
  · exact hc _ _ (flat3_get ss j hj).2.1
  · exact hc _ _ (flat3_get ss j hj).2.2

theorem Spans.below {w w' : World} {A : Option Addr} {ss : List Spn} (h : Spans w A ss) (hb : Below w.heap.size w w') : Spans w' A ss := Sl.below h hb
theorem Spans.keep {w w' : World} {A : Option Addr} {ss : List Spn} (h : Spans w A ss) (hb : ∀ p : Addr, p.block < w.heap.size → w'.cell? p = w.cell? p) : Spans w' A ss := Sl.keep h hb

/-- the class of a number: the value of the first span that holds it -/
def cls (ss : List Spn) (c : Int) : Int :=
  match ss with
  | [] => 0
  | s :: r => if s.lo ≤ c ∧ c ≤ s.hi then s.val else cls r c

/-- the spans ascend and are disjoint -/
def Asc (ss : List Spn) : Prop := ∀ i j, (hi : i < ss.length) → (hj : j < ss.length) → (ss[i].lo ≤ ss[i].hi) ∧ (i < j → ss[i].hi < ss[j].lo)

theorem cls_at (ss : List Spn) (c : Int) (i : Nat) (hi : i < ss.length) (h : Asc ss) (h1 : ss[i].lo ≤ c) (h2 : c ≤ ss[i].hi) : cls ss c = ss[i].val := by
  induction ss generalizing i with
  | nil => simp at hi
  | cons s r ih =>
    cases i with
    | zero => simp only [List.getElem_cons_zero] at *; unfold cls; rw [if_pos ⟨h1, h2⟩]
    | succ i =>
      have hlt := (h 0 (i + 1) (by simp) hi).2 (by omega)
      simp only [List.getElem_cons_zero, List.getElem_cons_succ] at *
      unfold cls
      rw [if_neg (by omega)]
      refine ih i (by simpa using hi) (fun a b ha hb => ?_) h1 h2
      have := h (a + 1) (b + 1) (by simpa using ha) (by simpa using hb)
      simp only [List.getElem_cons_succ] at this
      exact ⟨this.1, fun hab => this.2 (by omega)⟩

theorem cls_none (ss : List Spn) (c : Int) (h : ∀ i, (hi : i < ss.length) → ¬ (ss[i].lo ≤ c ∧ c ≤ ss[i].hi)) : cls ss c = 0 := by
  induction ss with
  | nil => rfl
  | cons s r ih =>
    unfold cls
    have h0 := h 0 (by simp)
    simp only [List.getElem_cons_zero] at h0
    rw [if_neg h0]
    exact ih fun i hi => by
      have := h (i + 1) (by simpa using hi)
      simpa using this

theorem Asc.nil : Asc [] := fun i _ hi => by simp at hi

end Go.Proofs.YtjglanjfgbipmaaDoor
/- Which error the check of classes finds first. Plain. -/
namespace Go.Proofs.YtjglanjfgbipmaaDoor
open Go.RowKit

/-- a span or a value that is not permitted -/
def Bad1 (s : Spn) : Prop := s.lo < 0 ∨ 1114111 < s.hi ∨ s.hi < s.lo ∨ s.val < 1 ∨ 254 < s.val
/-- two neighbours that are not ascending, disjoint and maximal -/
def Bad2 (a b : Spn) : Prop := b.lo ≤ a.hi ∨ (b.lo = a.hi + 1 ∧ b.val = a.val)
/-- a span that holds a part or a syllable of Hangul -/
def Bad3 (s : Spn) : Prop := (s.lo ≤ 4370 ∧ 4352 ≤ s.hi) ∨ (s.lo ≤ 4469 ∧ 4449 ≤ s.hi) ∨ (s.lo ≤ 4546 ∧ 4520 ≤ s.hi) ∨ (s.lo ≤ 55203 ∧ 44032 ≤ s.hi)

instance (s : Spn) : Decidable (Bad1 s) := by unfold Bad1; exact inferInstance
instance (a b : Spn) : Decidable (Bad2 a b) := by unfold Bad2; exact inferInstance
instance (s : Spn) : Decidable (Bad3 s) := by unfold Bad3; exact inferInstance

def adj2 : List Spn → Bool
  | a :: b :: r => decide (Bad2 a b) || adj2 (b :: r)
  | _ => false

/-- the first error: 1 a range, 4 the order, 11 the data; 0 none -/
def chk (ss : List Spn) : Int := if (ss.any fun s => decide (Bad1 s)) = true then 1 else if adj2 ss = true then 4 else if (ss.any fun s => decide (Bad3 s)) = true then 11 else 0

theorem any_true {p : Spn → Bool} {ss : List Spn} {k : Nat} (hk : k < ss.length) (h : p ss[k] = true) : ss.any p = true := List.any_eq_true.2 ⟨ss[k], List.getElem_mem hk, h⟩
theorem any_false {p : Spn → Bool} {ss : List Spn} (h : ∀ t, (ht : t < ss.length) → p ss[t] = false) : ss.any p = false := by
  rw [List.any_eq_false]
  intro x hx
  obtain ⟨i, hi, rfl⟩ := List.getElem_of_mem hx
  rw [h i hi]; simp

theorem adj2_true {ss : List Spn} {k : Nat} (hk : k + 1 < ss.length) (h : Bad2 ss[k] ss[k + 1]) : adj2 ss = true := by
  induction ss generalizing k with
  | nil => simp at hk
  | cons a r ih =>
    cases r with
    | nil => simp at hk
    | cons b r =>
      cases k with
      | zero => simp only [List.getElem_cons_zero, List.getElem_cons_succ] at h; simp [adj2, h]
      | succ k =>
        simp only [adj2, Bool.or_eq_true]
        right
        exact ih (k := k) (by simpa using hk) (by simpa using h)

theorem adj2_false {ss : List Spn} (h : ∀ t, (ht : t + 1 < ss.length) → ¬ Bad2 ss[t] ss[t + 1]) : adj2 ss = false := by
  induction ss with
  | nil => rfl
  | cons a r ih =>
    cases r with
    | nil => rfl
    | cons b r =>
      have h0 := h 0 (by simp)
      simp only [List.getElem_cons_zero, List.getElem_cons_succ] at h0
      simp only [adj2, Bool.or_eq_false_iff]
      refine ⟨by simpa using h0, ih fun t ht => ?_⟩
      have := h (t + 1) (by simpa using ht)
      simpa using this

theorem chk_1 {ss : List Spn} {k : Nat} (hk : k < ss.length) (h : Bad1 ss[k]) : chk ss = 1 := by
  unfold chk; rw [if_pos (any_true hk (by simpa using h))]
theorem chk_4 {ss : List Spn} {k : Nat} (h1 : ∀ t, (ht : t < ss.length) → ¬ Bad1 ss[t]) (hk : k + 1 < ss.length) (h : Bad2 ss[k] ss[k + 1]) : chk ss = 4 := by
  unfold chk; rw [if_neg (by rw [any_false fun t ht => by simpa using h1 t ht]; simp), if_pos (adj2_true hk h)]
theorem chk_11 {ss : List Spn} {k : Nat} (h1 : ∀ t, (ht : t < ss.length) → ¬ Bad1 ss[t]) (h2 : ∀ t, (ht : t + 1 < ss.length) → ¬ Bad2 ss[t] ss[t + 1]) (hk : k < ss.length) (h : Bad3 ss[k]) : chk ss = 11 := by
  unfold chk; rw [if_neg (by rw [any_false fun t ht => by simpa using h1 t ht]; simp), if_neg (by rw [adj2_false h2]; simp), if_pos (any_true hk (by simpa using h))]
theorem chk_0 {ss : List Spn} (h1 : ∀ t, (ht : t < ss.length) → ¬ Bad1 ss[t]) (h2 : ∀ t, (ht : t + 1 < ss.length) → ¬ Bad2 ss[t] ss[t + 1]) (h3 : ∀ t, (ht : t < ss.length) → ¬ Bad3 ss[t]) : chk ss = 0 := by
  unfold chk; rw [if_neg (by rw [any_false fun t ht => by simpa using h1 t ht]; simp), if_neg (by rw [adj2_false h2]; simp), if_neg (by rw [any_false fun t ht => by simpa using h3 t ht]; simp)]

theorem all_succ {ss : List Spn} {P : Spn → Prop} {i : Nat} (hlt : i < ss.length) (h : ∀ t, (ht : t < ss.length) → t < i → ¬ P ss[t]) (hi : ¬ P ss[i]) : ∀ t, (ht : t < ss.length) → t < i + 1 → ¬ P ss[t] := by
  intro t ht g
  by_cases e : t < i
  · exact h t ht e
  · obtain rfl : t = i := by omega
    exact hi
theorem pair_succ {ss : List Spn} {P : Spn → Spn → Prop} {i : Nat} (hlt : i + 1 < ss.length) (h : ∀ t, (ht : t + 1 < ss.length) → t < i → ¬ P ss[t] ss[t + 1]) (hi : ¬ P ss[i] ss[i + 1]) : ∀ t, (ht : t + 1 < ss.length) → t < i + 1 → ¬ P ss[t] ss[t + 1] := by
  intro t ht g
  by_cases e : t < i
  · exact h t ht e
  · obtain rfl : t = i := by omega
    exact hi

theorem chk_ok {ss : List Spn} (h : chk ss = 0) : (∀ t, (ht : t < ss.length) → ¬ Bad1 ss[t]) ∧ (∀ t, (ht : t + 1 < ss.length) → ¬ Bad2 ss[t] ss[t + 1]) := by
  unfold chk at h
  split at h
  · omega
  · next h1 =>
    split at h
    · omega
    · next h2 =>
      refine ⟨fun t ht hb => h1 (any_true ht (by simpa using hb)), fun t ht hb => h2 (adj2_true ht hb)⟩

/-- valid spans ascend -/
theorem asc_of_ok {ss : List Spn} (h : chk ss = 0) : Asc ss := by
  obtain ⟨h1, h2⟩ := chk_ok h
  have step : ∀ d i, (hi : i < ss.length) → (hj : i + d + 1 < ss.length) → ss[i].hi < ss[i + d + 1].lo := by
    intro d
    induction d with
    | zero =>
      intro i hi hj
      have := h2 i (by omega)
      unfold Bad2 at this
      have : ¬ ss[i + 1].lo ≤ ss[i].hi := fun h => this (.inl h)
      simp only [Nat.add_zero]; omega
    | succ d ih =>
      intro i hi hj
      have a1 := ih i hi (by omega)
      have a2 := h2 (i + d + 1) (by omega)
      have a3 := h1 (i + d + 1) (by omega)
      unfold Bad2 at a2
      unfold Bad1 at a3
      have a4 : ¬ ss[i + d + 1 + 1].lo ≤ ss[i + d + 1].hi := fun h => a2 (.inl h)
      have : i + (d + 1) + 1 = i + d + 1 + 1 := by omega
      simp only [this]
      omega
  intro i j hi hj
  refine ⟨?_, fun hij => ?_⟩
  · have := h1 i hi
    unfold Bad1 at this
    omega
  · have := step (j - i - 1) i hi (by omega)
    have e : i + (j - i - 1) + 1 = j := by omega
    simp only [e] at this
    exact this

end Go.Proofs.YtjglanjfgbipmaaDoor
/- The plain mathematics of Hangul syllables: kinds, parts, pairs, the lengths of syllables. No program in sight. -/
namespace Go.Proofs.YtjglanjfgbipmaaDoor.Hg

def kind (c : Int) : Int :=
  if 0x1100 ≤ c ∧ c ≤ 0x1112 then 1
  else if 0x1161 ≤ c ∧ c ≤ 0x1175 then 2
  else if 0x11A8 ≤ c ∧ c ≤ 0x11C2 then 3
  else if 0xAC00 ≤ c ∧ c ≤ 0xD7A3 then (if (c - 0xAC00) % 28 = 0 then 4 else 5)
  else 0

theorem kind1 {c : Int} (h : 0x1100 ≤ c ∧ c ≤ 0x1112) : kind c = 1 := by unfold kind; rw [if_pos h]
theorem kind2 {c : Int} (h : 0x1161 ≤ c ∧ c ≤ 0x1175) : kind c = 2 := by unfold kind; rw [if_neg (by omega), if_pos h]
theorem kind3 {c : Int} (h : 0x11A8 ≤ c ∧ c ≤ 0x11C2) : kind c = 3 := by unfold kind; rw [if_neg (by omega), if_neg (by omega), if_pos h]
theorem kind4 {c : Int} (h : 0xAC00 ≤ c ∧ c ≤ 0xD7A3) (h' : (c - 0xAC00) % 28 = 0) : kind c = 4 := by unfold kind; rw [if_neg (by omega), if_neg (by omega), if_neg (by omega), if_pos h, if_pos h']
theorem kind5 {c : Int} (h : 0xAC00 ≤ c ∧ c ≤ 0xD7A3) (h' : ¬ (c - 0xAC00) % 28 = 0) : kind c = 5 := by unfold kind; rw [if_neg (by omega), if_neg (by omega), if_neg (by omega), if_pos h, if_neg h']
theorem kind0 {c : Int} (h1 : ¬ (0x1100 ≤ c ∧ c ≤ 0x1112)) (h2 : ¬ (0x1161 ≤ c ∧ c ≤ 0x1175)) (h3 : ¬ (0x11A8 ≤ c ∧ c ≤ 0x11C2)) (h4 : ¬ (0xAC00 ≤ c ∧ c ≤ 0xD7A3)) : kind c = 0 := by
  unfold kind; rw [if_neg h1, if_neg h2, if_neg h3, if_neg h4]

/-- the six cases of a number -/
theorem cases6 (c : Int) : (0x1100 ≤ c ∧ c ≤ 0x1112 ∧ kind c = 1) ∨ (0x1161 ≤ c ∧ c ≤ 0x1175 ∧ kind c = 2) ∨ (0x11A8 ≤ c ∧ c ≤ 0x11C2 ∧ kind c = 3) ∨ (0xAC00 ≤ c ∧ c ≤ 0xD7A3 ∧ (c - 0xAC00) % 28 = 0 ∧ kind c = 4) ∨
    (0xAC00 ≤ c ∧ c ≤ 0xD7A3 ∧ ¬ (c - 0xAC00) % 28 = 0 ∧ kind c = 5) ∨ (¬ (0x1100 ≤ c ∧ c ≤ 0x1112) ∧ ¬ (0x1161 ≤ c ∧ c ≤ 0x1175) ∧ ¬ (0x11A8 ≤ c ∧ c ≤ 0x11C2) ∧ ¬ (0xAC00 ≤ c ∧ c ≤ 0xD7A3) ∧ kind c = 0) := by
  by_cases h1 : 0x1100 ≤ c ∧ c ≤ 0x1112
  · exact .inl ⟨h1.1, h1.2, kind1 h1⟩
  by_cases h2 : 0x1161 ≤ c ∧ c ≤ 0x1175
  · exact .inr (.inl ⟨h2.1, h2.2, kind2 h2⟩)
  by_cases h3 : 0x11A8 ≤ c ∧ c ≤ 0x11C2
  · exact .inr (.inr (.inl ⟨h3.1, h3.2, kind3 h3⟩))
  by_cases h4 : 0xAC00 ≤ c ∧ c ≤ 0xD7A3
  · by_cases h5 : (c - 0xAC00) % 28 = 0
    · exact .inr (.inr (.inr (.inl ⟨h4.1, h4.2, h5, kind4 h4 h5⟩)))
    · exact .inr (.inr (.inr (.inr (.inl ⟨h4.1, h4.2, h5, kind5 h4 h5⟩))))
  · exact .inr (.inr (.inr (.inr (.inr ⟨h1, h2, h3, h4, kind0 h1 h2 h3 h4⟩))))

theorem kind_range (c : Int) : 0 ≤ kind c ∧ kind c ≤ 5 := by
  rcases cases6 c with h | h | h | h | h | h <;> omega

def decomp (c : Int) : List Int :=
  if kind c < 4 then [c]
  else if (c - 0xAC00) % 28 = 0 then [0x1100 + (c - 0xAC00) / 28 / 21, 0x1161 + (c - 0xAC00) / 28 % 21]
  else [0x1100 + (c - 0xAC00) / 28 / 21, 0x1161 + (c - 0xAC00) / 28 % 21, 0x11A8 + (c - 0xAC00) % 28 - 1]

def comp (a b : Int) : Int × Bool :=
  if kind a = 1 ∧ kind b = 2 then (0xAC00 + (21 * (a - 0x1100) + b - 0x1161) * 28, true)
  else if kind a = 4 ∧ kind b = 3 then (a + b - 0x11A8 + 1, true)
  else (0, false)

/-- the length of the syllable that begins with elements of these kinds -/
def pl (p q r : Int) : Nat :=
  if (p == 1 && q == 2 && r == 3) = true then 3 else if (p == 1 && q == 2) = true then 2 else if (p == 4 && q == 3) = true then 2 else if 4 ≤ p then 1 else 0

/-- the kind of the element at an index, 0 if there is none -/
def kd (l : List Int) (j : Nat) : Int := (l[j]?.map kind).getD 0

/-- the length of the longest syllable at the beginning of a list, 0 if there is none -/
def plen (l : List Int) : Nat := pl (kd l 0) (kd l 1) (kd l 2)

theorem pl_le (p q r : Int) : pl p q r ≤ 3 := by unfold pl; (repeat' split) <;> omega
theorem plen_le3 (l : List Int) : plen l ≤ 3 := pl_le _ _ _
theorem plen_le (l : List Int) : plen l ≤ l.length := by
  unfold plen
  rcases l with _ | ⟨a, _ | ⟨b, _ | ⟨c, t⟩⟩⟩
  · simp [kd, pl]
  · simp only [kd, pl]; simp; split <;> omega
  · simp only [kd, pl]; simp; (repeat' split) <;> omega
  · have := pl_le (kd (a :: b :: c :: t) 0) (kd (a :: b :: c :: t) 1) (kd (a :: b :: c :: t) 2); simp; omega

/-- the ranges of the syllables from a position on, with fuel -/
def spl (l : List Int) : Nat → Nat → List (Nat × Nat)
  | 0, _ => []
  | f + 1, i => if i < l.length then (if 0 < plen (l.drop i) then (i, i + plen (l.drop i)) :: spl l f (i + plen (l.drop i)) else spl l f (i + 1)) else []

theorem spl_done (l : List Int) (f i : Nat) (h : l.length ≤ i) : spl l f i = [] := by
  cases f with
  | zero => rfl
  | succ f => rw [spl, if_neg (by omega)]

theorem spl_fuel (l : List Int) : ∀ (f g i : Nat), l.length - i ≤ f → l.length - i ≤ g → spl l f i = spl l g i
  | 0, g, i, hf, _ => by rw [spl_done l g i (by omega), spl_done l 0 i (by omega)]
  | f + 1, 0, i, _, hg => by rw [spl_done l (f + 1) i (by omega), spl_done l 0 i (by omega)]
  | f + 1, g + 1, i, hf, hg => by
    simp only [spl]
    split
    · split
      · rw [spl_fuel l f g _ (by omega) (by omega)]
      · rw [spl_fuel l f g _ (by omega) (by omega)]
    · rfl

/-- the ranges of the syllables from a position on -/
def sp (l : List Int) (i : Nat) : List (Nat × Nat) := spl l (l.length - i) i

theorem sp_end (l : List Int) (i : Nat) (h : l.length ≤ i) : sp l i = [] := spl_done l _ i h
theorem sp_yes (l : List Int) (i : Nat) (h : i < l.length) (hp : 0 < plen (l.drop i)) : sp l i = (i, i + plen (l.drop i)) :: sp l (i + plen (l.drop i)) := by
  unfold sp
  obtain ⟨f, hf⟩ : ∃ f, l.length - i = f + 1 := ⟨l.length - i - 1, by omega⟩
  rw [hf, spl, if_pos h, if_pos hp, spl_fuel l f (l.length - (i + plen (l.drop i))) _ (by omega) (by omega)]
theorem sp_no (l : List Int) (i : Nat) (h : i < l.length) (hp : plen (l.drop i) = 0) : sp l i = sp l (i + 1) := by
  unfold sp
  obtain ⟨f, hf⟩ : ∃ f, l.length - i = f + 1 := ⟨l.length - i - 1, by omega⟩
  rw [hf, spl, if_pos h, if_neg (by omega), spl_fuel l f (l.length - (i + 1)) _ (by omega) (by omega)]
theorem sp_len (l : List Int) (i : Nat) : (sp l i).length ≤ l.length - i := by
  suffices h : ∀ f i, (spl l f i).length ≤ f from h _ _
  intro f
  induction f with
  | zero => intro i; simp [spl]
  | succ f ih =>
    intro i
    rw [spl]
    split
    · split
      · have := ih (i + plen (l.drop i)); simp; omega
      · have := ih (i + 1); omega
    · simp

end Go.Proofs.YtjglanjfgbipmaaDoor.Hg
