/- The plain laws of case mapping: contexts, mapped texts, title case. No program in sight. -/
import Derived.Test.YtpamkbbmbeeheaaCaseD
namespace Go.Proofs.Ytpamkbbmbeeheaa
open Go.RowKit

/-- whether the first element that is not ignored is cased -/
def nearC (C : Cse) : List Int → Bool
  | [] => false
  | x :: r => if hasR C.ign x = true then nearC C r else hasR C.cased x
/-- whether the element with index i is final -/
def finC (C : Cse) (t : List Int) (i : Nat) : Bool := nearC C (t.take i).reverse && !nearC C (t.drop (i + 1))
/-- the mapping without a tag, or the number alone -/
def mapT (ms : List Mp) (x : Int) : List Int := (getM ms x .empty).getD [x]
def lowX (C : Cse) (x : Int) (f : Bool) : List Int := if f = true then (getM C.lower x finalS).getD (mapT C.lower x) else mapT C.lower x
def lowAt (C : Cse) (t : List Int) (i : Nat) : List Int := lowX C (t.getD i 0) (finC C t i)
def upAt (ms : List Mp) (t : List Int) (i : Nat) : List Int := mapT ms (t.getD i 0)
def sameAt (t : List Int) (i : Nat) : List Int := [t.getD i 0]
def joinI (f : Nat → List Int) (lo hi : Nat) : List Int := (List.range' lo (hi - lo)).flatMap f
def lowL (C : Cse) (t : List Int) : List Int := joinI (lowAt C t) 0 t.length
def upL (C : Cse) (t : List Int) : List Int := joinI (upAt C.upper t) 0 t.length

theorem nearC_up (C : Cse) {t : List Int} {i : Nat} (h : i < t.length) : nearC C (t.take (i + 1)).reverse = if hasR C.ign t[i] = true then nearC C (t.take i).reverse else hasR C.cased t[i] := by
  rw [List.take_succ_eq_append_getElem h, List.reverse_append]; rfl
theorem nearC_down (C : Cse) {t : List Int} {i : Nat} (h : i < t.length) : nearC C (t.drop i) = if hasR C.ign t[i] = true then nearC C (t.drop (i + 1)) else hasR C.cased t[i] := by
  rw [List.drop_eq_getElem_cons h]; rfl
theorem nearC_no (C : Cse) : ∀ {l : List Int}, (∀ x ∈ l, hasR C.cased x = false) → nearC C l = false
  | [], _ => rfl
  | x :: r, h => by
    unfold nearC
    split
    · exact nearC_no C fun y hy => h y (List.mem_cons_of_mem _ hy)
    · exact h x (by simp)
theorem getD_at {t : List Int} {i : Nat} (h : i < t.length) : t.getD i 0 = t[i] := by simp [List.getD, List.getElem?_eq_getElem h]
theorem finC_no {C : Cse} {t : List Int} {i : Nat} (h : ∀ x ∈ t, hasR C.cased x = false) : finC C t i = false := by
  unfold finC
  rw [nearC_no C (fun x hx => h x (List.mem_of_mem_take (List.mem_reverse.1 hx)))]
  rfl

theorem joinI_nil (f : Nat → List Int) {lo hi : Nat} (h : hi ≤ lo) : joinI f lo hi = [] := by
  unfold joinI; rw [show hi - lo = 0 by omega]; rfl
theorem joinI_add (f : Nat → List Int) {a b c : Nat} (h1 : a ≤ b) (h2 : b ≤ c) : joinI f a c = joinI f a b ++ joinI f b c := by
  unfold joinI
  rw [← List.flatMap_append, show c - a = (b - a) + (c - b) by omega]
  congr 1
  rw [show b = a + 1 * (b - a) by omega, show a + 1 * (b - a) - a = b - a by omega, List.range'_append]
theorem joinI_one (f : Nat → List Int) (i : Nat) : joinI f i (i + 1) = f i := by
  unfold joinI; rw [show i + 1 - i = 1 by omega]; simp
theorem joinI_snoc (f : Nat → List Int) {lo i : Nat} (h : lo ≤ i) : joinI f lo (i + 1) = joinI f lo i ++ f i := by
  rw [joinI_add f h (Nat.le_succ i), joinI_one]
theorem joinI_congr {f g : Nat → List Int} {lo hi : Nat} (h : ∀ i, lo ≤ i → i < hi → f i = g i) : joinI f lo hi = joinI g lo hi := by
  unfold joinI
  have : ∀ l : List Nat, (∀ i ∈ l, f i = g i) → l.flatMap f = l.flatMap g := by
    intro l
    induction l with
    | nil => intro _; rfl
    | cons x l ih => intro hl; rw [List.flatMap_cons, List.flatMap_cons, hl x (by simp), ih fun y hy => hl y (by simp [hy])]
  refine this _ fun i hi => ?_
  rw [List.mem_range'_1] at hi
  exact h i hi.1 (by omega)
theorem joinI_len {f : Nat → List Int} {lo : Nat} {k : Nat} : ∀ {hi : Nat}, (∀ i, lo ≤ i → i < hi → (f i).length ≤ k) → (joinI f lo hi).length ≤ k * (hi - lo)
  | 0, _ => by rw [joinI_nil f (Nat.zero_le _)]; exact Nat.zero_le _
  | hi + 1, h => by
    by_cases hl : lo ≤ hi
    · rw [joinI_snoc f hl, List.length_append, show hi + 1 - lo = (hi - lo) + 1 by omega, Nat.mul_add, Nat.mul_one]
      have := joinI_len (f := f) (lo := lo) (hi := hi) (fun i h1 h2 => h i h1 (by omega))
      have := h hi hl (by omega)
      omega
    · rw [joinI_nil f (by omega)]; exact Nat.zero_le _
theorem joinI_same {t : List Int} {a : Nat} : ∀ {b : Nat}, b ≤ t.length → joinI (sameAt t) a b = (t.take b).drop a
  | 0, _ => by rw [joinI_nil _ (Nat.zero_le _)]; simp
  | b + 1, h => by
    by_cases hl : a ≤ b
    · rw [joinI_snoc _ hl, joinI_same (by omega), List.take_succ_eq_append_getElem (by omega), List.drop_append_of_le_length (by simp; omega)]
      unfold sameAt
      rw [getD_at (by omega)]
    · rw [joinI_nil _ (by omega), List.drop_of_length_le (by simp; omega)]
theorem joinI_flat (g : Int → List Int) (t : List Int) : joinI (fun i => g (t.getD i 0)) 0 t.length = t.flatMap g := by
  have : ∀ b, b ≤ t.length → joinI (fun i => g (t.getD i 0)) 0 b = (t.take b).flatMap g := by
    intro b
    induction b with
    | zero => intro _; rw [joinI_nil _ (Nat.zero_le _)]; simp
    | succ b ih => intro h; rw [joinI_snoc _ (Nat.zero_le _), ih (by omega), List.take_succ_eq_append_getElem (by omega), List.flatMap_append, getD_at (by omega)]; simp
  rw [this _ (Nat.le_refl _), List.take_length]
theorem upL_flat (C : Cse) (t : List Int) : upL C t = t.flatMap (mapT C.upper) := joinI_flat _ t
theorem upL_app (C : Cse) (a b : List Int) : upL C (a ++ b) = upL C a ++ upL C b := by rw [upL_flat, upL_flat, upL_flat, List.flatMap_append]
/-- no mapping for final elements -/
def noFin (C : Cse) : Prop := ∀ x, getM C.lower x finalS = none
theorem lowL_flat {C : Cse} (h : noFin C) (t : List Int) : lowL C t = t.flatMap (mapT C.lower) := by
  rw [← joinI_flat]
  refine joinI_congr fun i _ _ => ?_
  unfold lowAt lowX
  rw [h]
  simp
theorem lowL_app {C : Cse} (h : noFin C) (a b : List Int) : lowL C (a ++ b) = lowL C a ++ lowL C b := by rw [lowL_flat h, lowL_flat h, lowL_flat h, List.flatMap_append]
theorem lowL_one (C : Cse) (x : Int) : lowL C [x] = mapT C.lower x := by
  show joinI (lowAt C [x]) 0 (0 + 1) = _
  rw [joinI_one]
  show lowX C x (finC C [x] 0) = _
  unfold finC lowX
  simp [nearC]
theorem upL_one (C : Cse) (x : Int) : upL C [x] = mapT C.upper x := by rw [upL_flat]; simp

/-! title case -/
/-- the first cased element of the n elements from lo on, or the end -/
def firstC (C : Cse) (t : List Int) (lo : Nat) : Nat → Nat
  | 0 => lo
  | n + 1 => if hasR C.cased (t.getD lo 0) = true then lo else firstC C t (lo + 1) n
theorem firstC_is {C : Cse} {t : List Int} : ∀ {n lo f : Nat}, lo ≤ f → f ≤ lo + n → (∀ j, lo ≤ j → j < f → hasR C.cased (t.getD j 0) = false) → (f < lo + n → hasR C.cased (t.getD f 0) = true) → firstC C t lo n = f
  | 0, lo, f, h1, h2, _, _ => by unfold firstC; omega
  | n + 1, lo, f, h1, h2, h3, h4 => by
    unfold firstC
    by_cases e : lo = f
    · subst e; rw [if_pos (h4 (by omega))]
    · rw [h3 lo (Nat.le_refl _) (by omega), if_neg (by simp)]
      exact firstC_is (by omega) (by omega) (fun j a b => h3 j (by omega) b) (fun h => h4 (by omega))
theorem firstC_le (C : Cse) (t : List Int) : ∀ n lo, lo ≤ firstC C t lo n ∧ firstC C t lo n ≤ lo + n
  | 0, lo => by unfold firstC; omega
  | n + 1, lo => by
    unfold firstC
    have := firstC_le C t n (lo + 1)
    split <;> omega
def partT (C : Cse) (t : List Int) (lo hi : Nat) : List Int :=
  joinI (sameAt t) lo (firstC C t lo (hi - lo)) ++ (if firstC C t lo (hi - lo) < hi then upAt C.title t (firstC C t lo (hi - lo)) ++ joinI (lowAt C t) (firstC C t lo (hi - lo) + 1) hi else [])
theorem partT_end {C : Cse} {t : List Int} {lo hi : Nat} (h1 : lo ≤ hi) (h3 : ∀ j, lo ≤ j → j < hi → hasR C.cased (t.getD j 0) = false) : partT C t lo hi = joinI (sameAt t) lo hi := by
  unfold partT
  rw [firstC_is (f := hi) h1 (by omega) h3 (fun h => by omega), if_neg (by omega), List.append_nil]
theorem partT_at {C : Cse} {t : List Int} {lo hi f : Nat} (h1 : lo ≤ f) (h2 : f < hi) (h3 : ∀ j, lo ≤ j → j < f → hasR C.cased (t.getD j 0) = false) (h4 : hasR C.cased (t.getD f 0) = true) :
    partT C t lo hi = joinI (sameAt t) lo f ++ upAt C.title t f ++ joinI (lowAt C t) (f + 1) hi := by
  unfold partT
  rw [firstC_is (f := f) h1 (by omega) h3 (fun _ => h4), if_pos h2, List.append_assoc]
/-- ascending and disjoint ranges from a number on -/
def withinL (n : Int) : Int → List Rg → Bool
  | _, [] => true
  | a, p :: r => if p.lo < a ∨ p.hi < p.lo ∨ n < p.hi then false else withinL n p.hi r
def titleP (C : Cse) (t : List Int) : Nat → List Rg → List Int
  | a, [] => joinI (sameAt t) a t.length
  | a, p :: r => joinI (sameAt t) a p.lo.toNat ++ partT C t p.lo.toNat p.hi.toNat ++ titleP C t p.hi.toNat r
def titleL (C : Cse) (t : List Int) (ps : List Rg) : List Int := if withinL t.length 0 ps = true then titleP C t 0 ps else t
theorem titleL_bad {C : Cse} {t : List Int} {ps : List Rg} (h : withinL t.length 0 ps = false) : titleL C t ps = t := by unfold titleL; rw [h]; simp
theorem titleL_ok {C : Cse} {t : List Int} {ps : List Rg} (h : withinL t.length 0 ps = true) : titleL C t ps = titleP C t 0 ps := by unfold titleL; rw [if_pos h]
theorem withinL_bad {n a : Int} {ps : List Rg} {k : Nat} (hk : k < ps.length) (h : ps[k].lo < a ∨ ps[k].hi < ps[k].lo ∨ n < ps[k].hi) : withinL n a (ps.drop k) = false := by
  rw [List.drop_eq_getElem_cons hk]; unfold withinL; rw [if_pos h]
theorem withinL_next {n a : Int} {ps : List Rg} {k : Nat} (hk : k < ps.length) (h : ¬ (ps[k].lo < a ∨ ps[k].hi < ps[k].lo ∨ n < ps[k].hi)) : withinL n a (ps.drop k) = withinL n ps[k].hi (ps.drop (k + 1)) := by
  rw [List.drop_eq_getElem_cons hk]; conv => lhs; unfold withinL
  rw [if_neg h]
theorem withinL_at {n a : Int} {ps : List Rg} {k : Nat} (hk : k < ps.length) (h : withinL n a (ps.drop k) = true) : a ≤ ps[k].lo ∧ ps[k].lo ≤ ps[k].hi ∧ ps[k].hi ≤ n ∧ withinL n ps[k].hi (ps.drop (k + 1)) = true := by
  by_cases hb : ps[k].lo < a ∨ ps[k].hi < ps[k].lo ∨ n < ps[k].hi
  · rw [withinL_bad hk hb] at h; cases h
  · rw [withinL_next hk hb] at h
    exact ⟨by omega, by omega, by omega, h⟩
theorem titleP_at {C : Cse} {t : List Int} {a : Nat} {ps : List Rg} {k : Nat} (hk : k < ps.length) : titleP C t a (ps.drop k) = joinI (sameAt t) a ps[k].lo.toNat ++ partT C t ps[k].lo.toNat ps[k].hi.toNat ++ titleP C t ps[k].hi.toNat (ps.drop (k + 1)) := by
  rw [List.drop_eq_getElem_cons hk]; rfl
theorem titleP_end {C : Cse} {t : List Int} {a : Nat} {ps : List Rg} {k : Nat} (hk : ps.length ≤ k) : titleP C t a (ps.drop k) = joinI (sameAt t) a t.length := by
  rw [List.drop_of_length_le hk]; rfl
theorem titleP_no {C : Cse} {t : List Int} (hc : ∀ x ∈ t, hasR C.cased x = false) : ∀ {ps : List Rg} {a : Nat}, a ≤ t.length → withinL t.length a ps = true → titleP C t a ps = t.drop a
  | [], a, _, _ => by show joinI (sameAt t) a t.length = _; rw [joinI_same (Nat.le_refl _), List.take_length]
  | p :: r, a, ha, h => by
    obtain ⟨h1, h2, h3, h4⟩ := withinL_at (ps := p :: r) (k := 0) (by simp) h
    simp only [List.getElem_cons_zero, List.drop_succ_cons, List.drop_zero] at h1 h2 h3 h4
    have e1 : (p.lo.toNat : Int) = p.lo := by omega
    have e2 : (p.hi.toNat : Int) = p.hi := by omega
    show joinI (sameAt t) a p.lo.toNat ++ partT C t p.lo.toNat p.hi.toNat ++ titleP C t p.hi.toNat r = _
    rw [partT_end (by omega) (fun j _ hj => by rw [getD_at (by omega)]; exact hc _ (List.getElem_mem _)), ← joinI_add _ (by omega) (by omega), joinI_same (by omega), titleP_no hc (by omega) (by rw [e2]; exact h4)]
    have : t = t.take p.hi.toNat ++ t.drop p.hi.toNat := (List.take_append_drop _ _).symm
    conv => rhs; rw [this]
    rw [List.drop_append_of_le_length (by simp; omega)]
theorem titleL_no {C : Cse} {t : List Int} (hc : ∀ x ∈ t, hasR C.cased x = false) (ps : List Rg) : titleL C t ps = t := by
  unfold titleL
  split
  · next h => rw [titleP_no hc (Nat.zero_le _) h]; rfl
  · rfl
theorem titleL_one {C : Cse} {t : List Int} {p : Rg} (h1 : 0 ≤ p.lo) (h2 : p.lo ≤ p.hi) (h3 : p.hi ≤ t.length) : titleL C t [p] = t.take p.lo.toNat ++ partT C t p.lo.toNat p.hi.toNat ++ t.drop p.hi.toNat := by
  rw [titleL_ok (by unfold withinL; rw [if_neg (by omega)]; rfl)]
  show joinI (sameAt t) 0 p.lo.toNat ++ partT C t p.lo.toNat p.hi.toNat ++ joinI (sameAt t) p.hi.toNat t.length = _
  rw [joinI_same (by omega), joinI_same (Nat.le_refl _), List.take_length]
  rfl

/-! valid data -/
structure CaseOk (C : Cse) : Prop where
  lower : mapErr C.lower = 0
  upper : mapErr C.upper = 0
  title : mapErr C.title = 0
theorem caseErr_ok {C : Cse} (h : caseErr C = 0) : CaseOk C := by
  unfold caseErr at h
  by_cases h0 : mapErr C.lower = 0
  · by_cases h1 : mapErr C.upper = 0
    · by_cases h2 : mapErr C.title = 0
      · exact ⟨h0, h1, h2⟩
      · simp [h0, h1, h2] at h
    · simp [h0, h1] at h
  · simp [h0] at h
theorem caseD_isok (C : Cse) : CaseOk (caseD C) := by
  by_cases h : caseErr C = 0
  · rw [caseD_ok h]; exact caseErr_ok h
  · rw [caseD_bad h]; exact ⟨by decide, by decide, by decide⟩
theorem getV_ok {ms : List Mp} (h : mapErr ms = 0) (x : Int) (tag : ByteArray) : getV ms x tag = getM ms x tag := if_pos h
theorem partsErr_ok {ms : List Mp} (h : mapErr ms = 0) : partsErr ms = 0 := by
  unfold mapErr at h
  by_cases hp : partsErr ms = 0
  · exact hp
  · rw [if_pos hp] at h; exact h
theorem mapErr_asc {ms : List Mp} (h : mapErr ms = 0) : ascM ms = true := by
  have hp := partsErr_ok h
  unfold mapErr at h
  rw [if_neg (by simp [hp])] at h
  cases ha : ascM ms with
  | true => rfl
  | false => rw [ha] at h; by_cases hn : (ms.map keyM).Nodup <;> simp [hn] at h
theorem mapErr_nodup {ms : List Mp} (h : mapErr ms = 0) : (ms.map keyM).Nodup := ascM_nodup (mapErr_asc h)
theorem mapErr_mem {ms : List Mp} (h : mapErr ms = 0) {m : Mp} (hm : m ∈ ms) : inR 0 1114111 m.frm = true ∧ m.to.length ≤ 64 := by
  have hp := partsErr_ok h
  unfold partsErr at hp
  cases h1 : ms.any mpBad with
  | true => rw [h1] at hp; simp at hp
  | false =>
    cases h2 : ms.any (fun m => decide (64 < m.to.length)) with
    | true => rw [h1, h2] at hp; simp at hp
    | false =>
      have a := List.any_eq_false.1 h1 m hm
      have b := List.any_eq_false.1 h2 m hm
      unfold mpBad at a
      simp only [Bool.or_eq_true, not_or, Bool.not_eq_true', decide_eq_true_eq] at a b
      exact ⟨by simpa using a.1, by omega⟩
theorem getM_mem {ms : List Mp} {x : Int} {tag : ByteArray} {l : List Int} (h : getM ms x tag = some l) : ∃ m ∈ ms, m.frm = x ∧ m.tag = tag ∧ m.to = l := by
  unfold getM at h
  rw [Option.map_eq_some_iff] at h
  obtain ⟨m, h1, h2⟩ := h
  have h3 := List.find?_some h1
  simp only [keyM, Prod.mk.injEq, decide_eq_true_eq] at h3
  exact ⟨m, List.mem_of_find?_eq_some h1, h3.1, h3.2, h2⟩
theorem getM_len {ms : List Mp} (h : mapErr ms = 0) {x : Int} {tag : ByteArray} {l : List Int} (hl : getM ms x tag = some l) : l.length ≤ 64 := by
  obtain ⟨m, h1, _, _, rfl⟩ := getM_mem hl
  exact (mapErr_mem h h1).2
theorem getM_in {ms : List Mp} (h : mapErr ms = 0) {x : Int} {tag : ByteArray} {l : List Int} (hl : getM ms x tag = some l) : inR 0 1114111 x = true := by
  obtain ⟨m, h1, rfl, _, _⟩ := getM_mem hl
  exact (mapErr_mem h h1).1
theorem mapT_len {ms : List Mp} (h : mapErr ms = 0) (x : Int) : (mapT ms x).length ≤ 64 := by
  unfold mapT
  cases hg : getM ms x .empty with
  | none => simp
  | some l => exact getM_len h hg
theorem upAt_len {ms : List Mp} (h : mapErr ms = 0) (t : List Int) (i : Nat) : (upAt ms t i).length ≤ 64 := mapT_len h _
theorem lowAt_len {C : Cse} (h : CaseOk C) (t : List Int) (i : Nat) : (lowAt C t i).length ≤ 64 := by
  unfold lowAt lowX
  split
  · cases hg : getM C.lower (t.getD i 0) finalS with
    | none => exact mapT_len h.lower _
    | some l => exact getM_len h.lower hg
  · exact mapT_len h.lower _
theorem sameAt_len (t : List Int) (i : Nat) : (sameAt t i).length ≤ 64 := by simp [sameAt]
theorem lowL_len {C : Cse} (h : CaseOk C) (t : List Int) : (lowL C t).length ≤ 64 * t.length := by
  have := joinI_len (f := lowAt C t) (lo := 0) (hi := t.length) (k := 64) (fun i _ _ => lowAt_len h t i)
  simpa [lowL] using this
theorem upL_len {C : Cse} (h : CaseOk C) (t : List Int) : (upL C t).length ≤ 64 * t.length := by
  have := joinI_len (f := upAt C.upper t) (lo := 0) (hi := t.length) (k := 64) (fun i _ _ => upAt_len h.upper t i)
  simpa [upL] using this
theorem partT_len {C : Cse} (h : CaseOk C) (t : List Int) {lo hi : Nat} (hl : lo ≤ hi) : (partT C t lo hi).length ≤ 64 * (hi - lo) := by
  unfold partT
  have hf := firstC_le C t (hi - lo) lo
  have j1 := joinI_len (f := sameAt t) (lo := lo) (hi := firstC C t lo (hi - lo)) (k := 64) (fun i _ _ => sameAt_len t i)
  have j2 := joinI_len (f := lowAt C t) (lo := firstC C t lo (hi - lo) + 1) (hi := hi) (k := 64) (fun i _ _ => lowAt_len h t i)
  have j3 := upAt_len h.title t (firstC C t lo (hi - lo))
  generalize firstC C t lo (hi - lo) = f at *
  rw [List.length_append]
  split
  · rw [List.length_append]; omega
  · simp; omega
theorem titleP_len {C : Cse} (h : CaseOk C) (t : List Int) : ∀ {ps : List Rg} {a : Nat}, a ≤ t.length → withinL t.length a ps = true → (titleP C t a ps).length ≤ 64 * (t.length - a)
  | [], a, _, _ => joinI_len (fun i _ _ => sameAt_len t i)
  | p :: r, a, ha, hw => by
    obtain ⟨h1, h2, h3, h4⟩ := withinL_at (ps := p :: r) (k := 0) (by simp) hw
    simp only [List.getElem_cons_zero, List.drop_succ_cons, List.drop_zero] at h1 h2 h3 h4
    have e2 : (p.hi.toNat : Int) = p.hi := by omega
    have j1 := joinI_len (f := sameAt t) (lo := a) (hi := p.lo.toNat) (k := 64) (fun i _ _ => sameAt_len t i)
    have j2 := partT_len h t (lo := p.lo.toNat) (hi := p.hi.toNat) (by omega)
    have j3 := titleP_len h t (ps := r) (a := p.hi.toNat) (by omega) (by rw [e2]; exact h4)
    show (joinI (sameAt t) a p.lo.toNat ++ partT C t p.lo.toNat p.hi.toNat ++ titleP C t p.hi.toNat r).length ≤ _
    rw [List.length_append, List.length_append]
    omega
theorem titleL_len {C : Cse} (h : CaseOk C) (t : List Int) (ps : List Rg) : (titleL C t ps).length ≤ 64 * t.length := by
  unfold titleL
  split
  · next hw => exact titleP_len h t (Nat.zero_le _) hw
  · omega

/-- the last mapping of a number with a tag -/
def lastM (ms : List Mp) (tag : ByteArray) (x : Int) : Option (List Int) := ms.foldl (fun r m => if m.tag = tag ∧ m.frm = x then some m.to else r) none
theorem lastM_take {ms : List Mp} {tag : ByteArray} {i : Nat} (hi : i < ms.length) (x : Int) : lastM (ms.take (i + 1)) tag x = if ms[i].tag = tag ∧ ms[i].frm = x then some ms[i].to else lastM (ms.take i) tag x := by
  rw [List.take_succ_eq_append_getElem hi]; unfold lastM; rw [List.foldl_append]; rfl
theorem lastM_getM {ms : List Mp} (h : (ms.map keyM).Nodup) (tag : ByteArray) (x : Int) : lastM ms tag x = getM ms x tag := by
  have : ∀ (ms : List Mp) (r : Option (List Int)), (ms.map keyM).Nodup → ms.foldl (fun r m => if m.tag = tag ∧ m.frm = x then some m.to else r) r = (getM ms x tag).or r := by
    intro ms
    induction ms with
    | nil => intro r _; rfl
    | cons m l ih =>
      intro r hn
      rw [List.map_cons, List.nodup_cons] at hn
      rw [List.foldl_cons, ih _ hn.2]
      by_cases e : m.tag = tag ∧ m.frm = x
      · have hk : keyM m = (x, tag) := by unfold keyM; rw [e.1, e.2]
        have h1 : getM l x tag = none := getM_none fun t ht he => hn.1 (List.mem_map.2 ⟨l[t], List.getElem_mem ht, by rw [he, hk]⟩)
        have h2 : getM (m :: l) x tag = some m.to := getM_at (ms := m :: l) (k := 0) (by simp) hk (fun t _ h => by omega)
        rw [if_pos e, h1, h2]; rfl
      · have hk : ¬ keyM m = (x, tag) := by
          intro hk
          unfold keyM at hk
          injection hk with a b
          exact e ⟨b, a⟩
        have h2 : getM (m :: l) x tag = getM l x tag := by unfold getM; rw [List.find?_cons_of_neg (by simpa using hk)]
        rw [if_neg e, h2]
  rw [show lastM ms tag x = _ from this ms none h]
  cases getM ms x tag <;> rfl
theorem noFin_of {C : Cse} (h : ∀ m ∈ C.lower, m.tag.size = 0) : noFin C := fun x => by
  cases hg : getM C.lower x finalS with
  | none => rfl
  | some l =>
    obtain ⟨m, h1, _, h2, _⟩ := getM_mem hg
    have := h m h1
    rw [h2] at this
    exact absurd this (by decide)
/-- the only element of a list, or another number -/
def onlyL (l : List Int) (x : Int) : Int := match l with | [y] => y | _ => x

end Go.Proofs.Ytpamkbbmbeeheaa
