/- Texts that are merged into one file: KeyPlain, CmpPlain, PackPlain, ListPlain, SlPlain, SlRun, OpenSt, SmallC, OptCk, Row. -/
import Derived.Test.YtpfbnikbebccjaaGreatDoorG01
import Derived.Test.YtpfbnikbebccjaaGreatDoorG03
import Derived.Test.YtpfbnikbebccjaaGreatDoorG05
import Derived.Test.YtpfbnikbebccjaaGreatDoorG09
/- Weights of elements, keys of texts. Plain. -/
namespace Go.Proofs.YtpfbnikbebccjaaGreatDoor
open Go.RowKit

/-- the options of a comparison -/
structure Opt where
  st : Int
  va : Int
  bk : Bool
  idn : Bool
  deriving DecidableEq
def optOk (o : Opt) : Bool := decide (1 ≤ o.st) && decide (o.st ≤ 4) && (decide (1 ≤ o.va) && decide (o.va ≤ 3))
/-- the options that count -/
def optD (o : Opt) : Opt := if optOk o = true then o else ⟨3, 1, false, false⟩
theorem optD_ok (o : Opt) : optOk (optD o) = true := by
  unfold optD
  split
  · next h => exact h
  · rfl
theorem optD_bd (o : Opt) : (1 ≤ (optD o).st ∧ (optD o).st ≤ 4) ∧ (1 ≤ (optD o).va ∧ (optD o).va ≤ 3) := by
  have h := optD_ok o
  unfold optOk at h
  simp at h
  omega

/-- whether an element stands behind a variable one, itself included -/
def aftE (a : Bool) (e : Elt) : Bool := if e.v = true ∨ e.p ≠ 0 then e.v else a
def noneE (e : Elt) : Bool := decide (e.p = 0) && decide (e.s = 0) && decide (e.t = 0)
def rawE (e : Elt) (k : Nat) : Int := if k = 0 then e.p else if k = 1 then e.s else if k = 2 then e.t else 0
/-- the weight of an element on a level, a: what aftE gives for it -/
def wtE (va : Int) (a : Bool) (e : Elt) (k : Nat) : Int :=
  if va = 1 then (if k < 3 then rawE e k else if noneE e = true then 0 else 65535)
  else if a = true then (if k = 3 ∧ va = 3 ∧ e.v = true then e.p else 0)
  else (if k < 3 then rawE e k else if va = 3 ∧ noneE e = false then 65535 else 0)
def aftL (a : Bool) (l : List Elt) : Bool := l.foldl aftE a
/-- the weights of elements, one function of the level for each -/
def wtsL (va : Int) : Bool → List Elt → List (Nat → Int)
  | _, [] => []
  | a, e :: l => wtE va (aftE a e) e :: wtsL va (aftE a e) l
theorem wtsL_len (va : Int) : ∀ (a : Bool) (l : List Elt), (wtsL va a l).length = l.length
  | _, [] => rfl
  | a, e :: l => by unfold wtsL; rw [List.length_cons, wtsL_len va _ l, List.length_cons]
theorem wtsL_snoc (va : Int) (e : Elt) : ∀ (a : Bool) (l : List Elt), wtsL va a (l ++ [e]) = wtsL va a l ++ [wtE va (aftE (aftL a l) e) e]
  | _, [] => rfl
  | a, x :: l => by
    rw [List.cons_append]
    unfold wtsL
    rw [wtsL_snoc va e _ l]
    rfl
theorem wtsL_take (va : Int) {l : List Elt} {i : Nat} (hi : i < l.length) : wtsL va false (l.take (i + 1)) = wtsL va false (l.take i) ++ [wtE va (aftE (aftL false (l.take i)) l[i]) l[i]] := by
  rw [List.take_succ_eq_append_getElem hi, wtsL_snoc]
theorem aftL_take {l : List Elt} {i : Nat} (hi : i < l.length) : aftL false (l.take (i + 1)) = aftE (aftL false (l.take i)) l[i] := by
  rw [List.take_succ_eq_append_getElem hi]
  unfold aftL
  rw [List.foldl_append]
  rfl
/-- the weights other than 0 on a level -/
def rowK (ws : List (Nat → Int)) (k : Nat) : List Int := (ws.map (fun w => w k)).filter (fun x => decide (x ≠ 0))
theorem rowK_snoc (ws : List (Nat → Int)) (w : Nat → Int) (k : Nat) : rowK (ws ++ [w]) k = rowK ws k ++ if w k = 0 then [] else [w k] := by
  unfold rowK
  rw [List.map_append, List.filter_append]
  congr 1
  by_cases h : w k = 0
  · simp [h]
  · simp [h]
theorem rowK_len (ws : List (Nat → Int)) (k : Nat) : (rowK ws k).length ≤ ws.length := by
  unfold rowK
  have := List.length_filter_le (fun x => decide (x ≠ 0)) (ws.map (fun w => w k))
  rw [List.length_map] at this
  exact this
/-- the row of a level, turned if the second one is asked for backward -/
def lvlK (o : Opt) (es : List Elt) (k : Nat) : List Int := if k = 1 ∧ o.bk = true then (rowK (wtsL o.va false es) k).reverse else rowK (wtsL o.va false es) k
/-- the weights for each level up to the strength; o: options that count -/
def wgtL (o : Opt) (es : List Elt) : List (List Int) := (List.range o.st.toNat).map (lvlK o es)
theorem wgtL_len (o : Opt) (es : List Elt) : (wgtL o es).length = o.st.toNat := by unfold wgtL; simp
/-- lists one after the other, a 0 between two of them -/
def joinL : List (List Int) → List Int
  | [] => []
  | [x] => x
  | x :: y :: l => x ++ 0 :: joinL (y :: l)
theorem joinL_snoc (y : List Int) : ∀ l : List (List Int), joinL (l ++ [y]) = joinL l ++ if l = [] then y else 0 :: y
  | [] => rfl
  | [x] => rfl
  | x :: z :: l => by
    have h := joinL_snoc y (z :: l)
    rw [if_neg (by simp)] at h ⊢
    show x ++ 0 :: joinL ((z :: l) ++ [y]) = (x ++ 0 :: joinL (z :: l)) ++ 0 :: y
    rw [h]
    simp
theorem joinL_take {l : List (List Int)} {i : Nat} (hi : i < l.length) : joinL (l.take (i + 1)) = (joinL (l.take i) ++ if i = 0 then [] else [0]) ++ l[i] := by
  rw [List.take_succ_eq_append_getElem hi, joinL_snoc]
  by_cases h : i = 0
  · subst h; simp
  · rw [if_neg h, if_neg (by
      intro e
      have := congrArg List.length e
      rw [List.length_take, List.length_nil] at this
      omega)]
    simp
/-- the identical part -/
def idnL (d : List Int) : List Int := (d.filter (fun c => decide (0 ≤ c) && decide (c ≤ 1114111))).map (· + 1)
theorem idnL_snoc (d : List Int) (c : Int) : idnL (d ++ [c]) = idnL d ++ if 0 ≤ c ∧ c ≤ 1114111 then [c + 1] else [] := by
  unfold idnL
  rw [List.filter_append, List.map_append]
  congr 1
  by_cases h : 0 ≤ c ∧ c ≤ 1114111
  · simp [h]
  · rw [if_neg h]
    have : (decide (0 ≤ c) && decide (c ≤ 1114111)) = false := by
      rw [Bool.eq_false_iff]
      intro h2
      simp at h2
      exact h h2
    simp [List.filter, this]
/-- the key; o: options that count, es: the text's elements, d: the decomposed text -/
def keyN (o : Opt) (es : List Elt) (d : List Int) : List Int := joinL (wgtL o es) ++ if o.idn = true then 0 :: idnL d else []
end Go.Proofs.YtpfbnikbebccjaaGreatDoor
/- Lexicographic comparison: an order. Plain. -/
namespace Go.Proofs.YtpfbnikbebccjaaGreatDoor
open Go.RowKit

theorem cmpL_vals : ∀ xs ys : List Int, cmpL xs ys = -1 ∨ cmpL xs ys = 0 ∨ cmpL xs ys = 1
  | [], [] => .inr (.inl rfl)
  | [], _ :: _ => .inl rfl
  | _ :: _, [] => .inr (.inr rfl)
  | a :: p, b :: q => by
    simp only [cmpL]
    split
    · exact .inl rfl
    · split
      · exact .inr (.inr rfl)
      · exact cmpL_vals p q
theorem cmpL_lt_trans : ∀ {xs ys zs : List Int}, cmpL xs ys < 0 → cmpL ys zs < 0 → cmpL xs zs < 0
  | [], [], _, h, _ => by simp [cmpL] at h
  | _ :: _, [], _, h, _ => by simp [cmpL] at h
  | _, _ :: _, [], _, h => by simp [cmpL] at h
  | [], _ :: _, _ :: _, _, _ => by simp [cmpL]
  | a :: _, b :: _, c :: _, h1, h2 => by
    simp only [cmpL] at *
    by_cases e1 : a < b
    · by_cases e2 : b < c
      · rw [if_pos (by omega)]; omega
      · rw [if_neg e2] at h2
        by_cases e3 : c < b
        · rw [if_pos e3] at h2; omega
        · rw [if_pos (by omega)]; omega
    · rw [if_neg e1] at h1
      by_cases e4 : b < a
      · rw [if_pos e4] at h1; omega
      · rw [if_neg e4] at h1
        by_cases e2 : b < c
        · rw [if_pos (by omega)]; omega
        · rw [if_neg e2] at h2
          by_cases e3 : c < b
          · rw [if_pos e3] at h2; omega
          · rw [if_neg e3] at h2
            rw [if_neg (by omega), if_neg (by omega)]
            exact cmpL_lt_trans h1 h2
theorem cmpL_self (xs : List Int) : cmpL xs xs = 0 := (cmpL_eq_zero xs xs).2 rfl
end Go.Proofs.YtpfbnikbebccjaaGreatDoor
/- Packing runs of a common number keeps the order of lists that end with 0 or with nothing. Plain. -/
namespace Go.Proofs.YtpfbnikbebccjaaGreatDoor.Pk
open Go.RowKit

theorem cmp_neg : ∀ u v : List Int, cmpL u v = -cmpL v u
  | [], [] => rfl
  | [], _ :: _ => rfl
  | _ :: _, [] => rfl
  | a :: u, b :: v => by
    unfold cmpL
    by_cases h : a < b
    · rw [if_pos h, if_neg (by omega), if_pos h]
    · rw [if_neg h]
      by_cases h2 : b < a
      · rw [if_pos h2, if_pos h2]; rfl
      · rw [if_neg h2, if_neg h2, if_neg h, cmp_neg u v]
/-- the first number, 0 if there is none -/
def fst (u : List Int) : Int := u.head?.getD 0
/-- what stands for q common numbers before a smaller number or the end, before a greater one -/
def low (m : Int) (q : Nat) : List Int := if q = 0 then [] else [m + q - 1]
/-- both end, or both go on with 0 -/
def Te (s t : List Int) : Prop := (s = [] ∧ t = []) ∨ ∃ a b, s = 0 :: a ∧ t = 0 :: b
theorem Te.fst {s t : List Int} (h : Te s t) : Pk.fst s = 0 ∧ Pk.fst t = 0 := by
  rcases h with ⟨rfl, rfl⟩ | ⟨a, b, rfl, rfl⟩ <;> exact ⟨rfl, rfl⟩
section
variable {m : Int}
end

/-- four bytes, the highest first -/
def b4 (x : Int) : List Int := [x / 16777216, x / 65536 % 256, x / 256 % 256, x % 256]
/-- one, two or four bytes -/
def vb (x : Int) : List Int := if x < 64 then [x] else if x < 16384 then [64 + x / 256, x % 256] else [128, x / 65536, x / 256 % 256, x % 256]
end Go.Proofs.YtpfbnikbebccjaaGreatDoor.Pk
/- Sorted lists of keys with numbers: places, putting in, taking out, ranges. Plain. -/
namespace Go.Proofs.YtpfbnikbebccjaaGreatDoor.Srl
open Go.RowKit

/-- a key with the number of its item -/
abbrev It := List Int × Int
def ltI (x y : It) : Prop := cmpL x.1 y.1 < 0 ∨ (cmpL x.1 y.1 = 0 ∧ x.2 < y.2)
instance (x y : It) : Decidable (ltI x y) := by unfold ltI; infer_instance
theorem ltI_irrefl (x : It) : ¬ ltI x x := by
  rintro (h | ⟨_, h⟩)
  · rw [cmpL_self] at h; omega
  · omega
theorem ltI_trans {x y z : It} (h : ltI x y) (g : ltI y z) : ltI x z := by
  rcases h with h | ⟨h1, h2⟩
  · rcases g with g | ⟨g1, g2⟩
    · exact .inl (cmpL_lt_trans h g)
    · rw [cmpL_eq_zero] at g1
      exact .inl (by rw [← g1]; exact h)
  · rw [cmpL_eq_zero] at h1
    rcases g with g | ⟨g1, g2⟩
    · exact .inl (by rw [h1]; exact g)
    · exact .inr ⟨by rw [h1]; exact g1, by omega⟩
theorem ltI_total {x y : It} (h : x ≠ y) : ltI x y ∨ ltI y x := by
  rcases cmpL_vals x.1 y.1 with e | e | e
  · exact .inl (.inl (by omega))
  · rcases Int.lt_trichotomy x.2 y.2 with g | g | g
    · exact .inl (.inr ⟨e, g⟩)
    · exact absurd (Prod.ext ((cmpL_eq_zero _ _).1 e) g) h
    · exact .inr (.inr ⟨by rw [Pk.cmp_neg, e]; rfl, g⟩)
  · exact .inr (.inl (by rw [Pk.cmp_neg, e]; omega))
theorem asc_unique : ∀ {L M : List It}, L.Pairwise ltI → M.Pairwise ltI → (∀ t, t ∈ L ↔ t ∈ M) → L = M
  | [], [], _, _, _ => rfl
  | [], y :: M, _, _, h => by have := (h y).2 (by simp); cases this
  | x :: L, [], _, _, h => by have := (h x).1 (by simp); cases this
  | x :: L, y :: M, hL, hM, h => by
    rw [List.pairwise_cons] at hL hM
    have hxy : x = y := by
      rcases List.mem_cons.1 ((h x).1 (by simp)) with e | e
      · exact e
      · rcases List.mem_cons.1 ((h y).2 (by simp)) with e' | e'
        · exact e'.symm
        · exact absurd (ltI_trans (hM.1 x e) (hL.1 y e')) (ltI_irrefl _)
    subst hxy
    rw [asc_unique hL.2 hM.2 (fun t => ?_)]
    have := h t
    simp only [List.mem_cons] at this
    constructor
    · intro ht
      rcases this.1 (.inr ht) with e | e
      · subst e; exact absurd (hL.1 t ht) (ltI_irrefl _)
      · exact e
    · intro ht
      rcases this.2 (.inr ht) with e | e
      · subst e; exact absurd (hM.1 t ht) (ltI_irrefl _)
      · exact e

/-! a predicate that holds at the beginning only -/
section
variable {α : Type} {p : α → Bool}
theorem cnt_le (l : List α) : l.countP p ≤ l.length := List.countP_le_length
theorem cnt_iff : ∀ {l : List α}, l.Pairwise (fun a b => p b = true → p a = true) → ∀ i, (hi : i < l.length) → (p l[i] = true ↔ i < l.countP p)
  | [], _, i, hi => by simp at hi
  | a :: l, h, i, hi => by
    rw [List.pairwise_cons] at h
    by_cases ha : p a = true
    · rw [List.countP_cons_of_pos ha]
      cases i with
      | zero => simp [ha]
      | succ i =>
        rw [List.getElem_cons_succ, cnt_iff h.2 i (by simpa using hi)]
        omega
    · have hz : l.countP p = 0 := by
        rw [List.countP_eq_zero]
        intro b hb hp
        exact ha (h.1 b hb hp)
      rw [List.countP_cons_of_neg ha, hz]
      cases i with
      | zero => simp [ha]
      | succ i =>
        rw [List.getElem_cons_succ, cnt_iff h.2 i (by simpa using hi), hz]
        omega
/-- the part where it holds -/
theorem cnt_take : ∀ {l : List α}, l.Pairwise (fun a b => p b = true → p a = true) → l.take (l.countP p) = l.filter p
  | [], _ => rfl
  | a :: l, h => by
    rw [List.pairwise_cons] at h
    by_cases ha : p a = true
    · rw [List.countP_cons_of_pos ha, List.take_succ_cons, cnt_take h.2, List.filter_cons_of_pos ha]
    · have hz : l.countP p = 0 := by
        rw [List.countP_eq_zero]
        intro b hb hp
        exact ha (h.1 b hb hp)
      rw [List.countP_cons_of_neg ha, hz, List.take_zero, List.filter_cons_of_neg ha]
      symm
      rw [List.filter_eq_nil_iff]
      intro b hb hp
      exact ha (h.1 b hb hp)
theorem cnt_drop : ∀ {l : List α}, l.Pairwise (fun a b => p b = true → p a = true) → l.drop (l.countP p) = l.filter (fun x => !p x)
  | [], _ => rfl
  | a :: l, h => by
    rw [List.pairwise_cons] at h
    by_cases ha : p a = true
    · rw [List.countP_cons_of_pos ha, List.drop_succ_cons, cnt_drop h.2, List.filter_cons_of_neg (by simp [ha])]
    · have hz : l.countP p = 0 := by
        rw [List.countP_eq_zero]
        intro b hb hp
        exact ha (h.1 b hb hp)
      rw [List.countP_cons_of_neg ha, hz, List.drop_zero]
      symm
      rw [List.filter_eq_self]
      intro b hb
      rcases List.mem_cons.1 hb with rfl | hb
      · simp [ha]
      · have : ¬ p b = true := fun hp => ha (h.1 b hb hp)
        simp [this]
end
/-- the place of an item: how many stand before it -/
def plc (l : List It) (x : It) : Nat := l.countP (fun y => decide (ltI y x))
theorem plc_pw {l : List It} (h : l.Pairwise ltI) (x : It) : l.Pairwise (fun a b => decide (ltI b x) = true → decide (ltI a x) = true) :=
  h.imp (fun hab hb => by simp at hb ⊢; exact ltI_trans hab hb)
theorem plc_iff {l : List It} (h : l.Pairwise ltI) (x : It) (i : Nat) (hi : i < l.length) : ltI l[i] x ↔ i < plc l x := by
  unfold plc
  have := cnt_iff (plc_pw h x) i hi
  simpa using this
theorem plc_at {l : List It} (h : l.Pairwise ltI) {i : Nat} (hi : i < l.length) : plc l l[i] = i := by
  have h1 := (plc_iff h l[i] i hi)
  have h2 : ¬ i < plc l l[i] := fun g => ltI_irrefl _ (h1.2 g)
  rcases Nat.lt_or_ge (plc l l[i]) i with g | g
  · exfalso
    have h3 := (plc_iff h l[i] (plc l l[i]) (by omega)).1 (List.pairwise_iff_getElem.1 h _ _ (by omega) hi g)
    omega
  · omega
/-- put in at its place -/
def ins (l : List It) (x : It) : List It := l.take (plc l x) ++ x :: l.drop (plc l x)
theorem ins_len {l : List It} {x : It} : (ins l x).length = l.length + 1 := by
  unfold ins
  rw [List.length_append, List.length_cons, List.length_take, List.length_drop]
  have : plc l x ≤ l.length := cnt_le _
  omega
theorem ins_asc {l : List It} {x : It} (h : l.Pairwise ltI) (hx : x ∉ l) : (ins l x).Pairwise ltI := by
  unfold ins
  have hp := h
  rw [← List.take_append_drop (plc l x) l, List.pairwise_append] at hp
  rw [List.pairwise_append, List.pairwise_cons]
  have h1 : ∀ y ∈ l.take (plc l x), ltI y x := fun y hy => by
    have e : l.take (plc l x) = l.filter (fun y => decide (ltI y x)) := cnt_take (plc_pw h x)
    rw [e] at hy
    have := (List.mem_filter.1 hy).2
    simpa using this
  have h2 : ∀ y ∈ l.drop (plc l x), ltI x y := fun y hy => by
    have e : l.drop (plc l x) = l.filter (fun y => !decide (ltI y x)) := cnt_drop (plc_pw h x)
    rw [e] at hy
    obtain ⟨hm, hn⟩ := List.mem_filter.1 hy
    have hne : x ≠ y := fun e => hx (by rw [e]; exact hm)
    rcases ltI_total hne with g | g
    · exact g
    · simp at hn; exact absurd g hn
  refine ⟨hp.1, ⟨h2, hp.2.1⟩, fun a ha b hb => ?_⟩
  rcases List.mem_cons.1 hb with rfl | hb
  · exact h1 a ha
  · exact ltI_trans (h1 a ha) (h2 b hb)
/-- how many have a smaller key -/
def frm (l : List It) (k : List Int) : Nat := l.countP (fun y => decide (cmpL y.1 k < 0))
theorem frm_pw {l : List It} (h : l.Pairwise ltI) (k : List Int) : l.Pairwise (fun a b => decide (cmpL b.1 k < 0) = true → decide (cmpL a.1 k < 0) = true) :=
  h.imp (fun {a b} hab hb => by
    simp at hb ⊢
    rcases hab with g | ⟨g, _⟩
    · exact cmpL_lt_trans g hb
    · rw [cmpL_eq_zero] at g; rw [g]; exact hb)
theorem frm_iff {l : List It} (h : l.Pairwise ltI) (k : List Int) (i : Nat) (hi : i < l.length) : cmpL l[i].1 k < 0 ↔ i < frm l k := by
  unfold frm
  have := cnt_iff (frm_pw h k) i hi
  simpa using this
/-- the items not less than one key and less than another one -/
def btw (l : List It) (a b : List Int) : List It := l.filter (fun y => decide (0 ≤ cmpL y.1 a) && decide (cmpL y.1 b < 0))
theorem frm_mono {l : List It} {a b : List Int} (h : cmpL a b ≤ 0) : frm l a ≤ frm l b := by
  unfold frm
  refine List.countP_mono_left fun x _ hx => ?_
  simp at hx ⊢
  rcases Int.lt_or_eq_of_le h with g | g
  · exact cmpL_lt_trans hx g
  · rw [cmpL_eq_zero] at g; rw [← g]; exact hx
theorem btw_cut {l : List It} (h : l.Pairwise ltI) {a b : List Int} (hab : frm l a ≤ frm l b) : (l.take (frm l b)).drop (frm l a) = btw l a b := by
  have e1 : l.take (frm l b) = l.filter (fun y => decide (cmpL y.1 b < 0)) := cnt_take (frm_pw h b)
  have hp : (l.filter (fun y => decide (cmpL y.1 b < 0))).Pairwise ltI := h.filter _
  have e2 : frm l a = frm (l.filter (fun y => decide (cmpL y.1 b < 0))) a := by
    rw [← e1]
    unfold frm at hab ⊢
    have hsum : l.countP (fun y => decide (cmpL y.1 a < 0)) = (l.take (l.countP (fun y => decide (cmpL y.1 b < 0)))).countP (fun y => decide (cmpL y.1 a < 0)) + (l.drop (l.countP (fun y => decide (cmpL y.1 b < 0)))).countP (fun y => decide (cmpL y.1 a < 0)) := by
      rw [← List.countP_append, List.take_append_drop]
    have hz : (l.drop (l.countP (fun y => decide (cmpL y.1 b < 0)))).countP (fun y => decide (cmpL y.1 a < 0)) = 0 := by
      rw [List.countP_eq_zero]
      intro y hy hlt
      obtain ⟨j, hj, rfl⟩ := List.mem_iff_getElem.1 hy
      rw [List.length_drop] at hj
      rw [List.getElem_drop] at hlt
      have hlt' : cmpL (l[l.countP (fun y => decide (cmpL y.1 b < 0)) + j]'(by omega)).1 a < 0 := by simpa using hlt
      have := (frm_iff h a (l.countP (fun y => decide (cmpL y.1 b < 0)) + j) (by omega)).1 hlt'
      unfold frm at this
      omega
    omega
  rw [e1, e2]
  have e3 : (l.filter (fun y => decide (cmpL y.1 b < 0))).drop (frm (l.filter (fun y => decide (cmpL y.1 b < 0))) a) = (l.filter (fun y => decide (cmpL y.1 b < 0))).filter (fun x => !decide (cmpL x.1 a < 0)) := cnt_drop (frm_pw hp a)
  rw [e3, List.filter_filter]
  unfold btw
  refine List.filter_congr fun y _ => ?_
  rw [Bool.eq_iff_iff]
  simp
end Go.Proofs.YtpfbnikbebccjaaGreatDoor.Srl
/- Lists of items in order: removing, putting, asking. Plain; K is the key of a text. -/
namespace Go.Proofs.YtpfbnikbebccjaaGreatDoor.Srl
open Go.RowKit

theorem cut_filter {α : Type} {p q r : α → Bool} {l : List α} (hp : l.Pairwise (fun a b => p b = true → p a = true)) (hq : l.Pairwise (fun a b => q b = true → q a = true)) (hle : l.countP q ≤ l.countP p) (hr : ∀ x, r x = (p x && !q x)) : (l.take (l.countP p)).drop (l.countP q) = l.filter r := by
  have hqp : ∀ a ∈ l, q a = true → p a = true := by
    intro a ha hqa
    obtain ⟨i, hi, rfl⟩ := List.mem_iff_getElem.1 ha
    have := (cnt_iff hq i hi).1 hqa
    exact (cnt_iff hp i hi).2 (by omega)
  have e1 : l.countP q = (l.filter p).countP q := by
    rw [List.countP_filter]
    refine List.countP_congr fun a ha => ?_
    constructor
    · intro h; simp [h, hqp a ha h]
    · intro h; simp at h; exact h.1
  rw [cnt_take hp, e1, cnt_drop (hq.filter _), List.filter_filter]
  refine List.filter_congr fun a _ => ?_
  rw [hr, Bool.and_comm]
/-- items: numbers with texts -/
abbrev Its := List (Int × List Int)
section
variable (K : List Int → List Int)
def kI (p : Int × List Int) : It := (K p.2, p.1)
def kL (L : Its) : List It := L.map (kI K)
def idsL (L : Its) : List Int := L.map Prod.fst
def remL (L : Its) (id : Int) : Its := L.filter (fun p => decide (p.1 ≠ id))
def atL (L : Its) (id : Int) (t : List Int) : Nat := plc (kL K (remL L id)) (K t, id)
def putL (L : Its) (id : Int) (t : List Int) : Its := (remL L id).take (atL K L id t) ++ (id, t) :: (remL L id).drop (atL K L id t)
def getL : Its → Int → Option (List Int)
  | [], _ => none
  | p :: L, id => if p.1 = id then some p.2 else getL L id
def posL : Its → Int → Int
  | [], _ => -1
  | p :: L, id => if p.1 = id then 0 else if posL L id = -1 then -1 else posL L id + 1
def lookL (L : Its) (t : List Int) : Its := L.filter (fun p => decide (cmpL (K p.2) (K t) = 0))
def btwL (L : Its) (a b : List Int) : Its := L.filter (fun p => decide (0 ≤ cmpL (K p.2) (K a)) && decide (cmpL (K p.2) (K b) < 0))
/-- in order, each number once -/
structure Srt (L : Its) : Prop where
  asc : (kL K L).Pairwise ltI
  one : (idsL L).Nodup
end
section
variable {K : List Int → List Int} {L : Its}
theorem kL_len : (kL K L).length = L.length := by simp [kL]
theorem kL_get (i : Nat) (hi : i < L.length) : (kL K L)[i]'(by rw [kL_len]; exact hi) = (K L[i].2, L[i].1) := by simp [kL, kI]
theorem idsL_len : (idsL L).length = L.length := by simp [idsL]
theorem getL_none {id : Int} : getL L id = none ↔ id ∉ idsL L := by
  induction L with
  | nil => simp [getL, idsL]
  | cons p L ih =>
    unfold getL
    by_cases e : p.1 = id
    · rw [if_pos e]; simp [idsL, e]
    · rw [if_neg e, ih]
      simp only [idsL, List.map_cons, List.mem_cons, not_or]
      exact ⟨fun h => ⟨fun q => e q.symm, h⟩, fun h => h.2⟩
theorem getL_mem {id : Int} {t : List Int} (hn : (idsL L).Nodup) (h : (id, t) ∈ L) : getL L id = some t := by
  induction L with
  | nil => cases h
  | cons p L ih =>
    unfold getL
    simp only [idsL, List.map_cons, List.nodup_cons] at hn
    rcases List.mem_cons.1 h with e | e
    · subst e; rw [if_pos rfl]
    · rw [if_neg (fun q => hn.1 (by rw [q]; exact List.mem_map_of_mem (f := Prod.fst) e))]
      exact ih hn.2 e
theorem posL_none {id : Int} (h : id ∉ idsL L) : posL L id = -1 := by
  induction L with
  | nil => rfl
  | cons p L ih =>
    simp [idsL] at h
    unfold posL
    rw [if_neg (fun q => h.1 q.symm), ih (by simpa [idsL] using h.2), if_pos rfl]
theorem posL_at (hn : (idsL L).Nodup) {i : Nat} (hi : i < L.length) : posL L L[i].1 = i := by
  induction L generalizing i with
  | nil => simp at hi
  | cons p L ih =>
    simp only [idsL, List.map_cons, List.nodup_cons] at hn
    unfold posL
    cases i with
    | zero => simp
    | succ i =>
      have hi' : i < L.length := by simpa using hi
      have hne : ¬ p.1 = L[i].1 := fun q => hn.1 (by rw [q]; exact List.mem_map_of_mem (f := Prod.fst) (List.getElem_mem hi'))
      rw [List.getElem_cons_succ, if_neg hne, ih hn.2 hi', if_neg (by omega)]
      omega
theorem remL_none {id : Int} (h : id ∉ idsL L) : remL L id = L := by
  unfold remL
  rw [List.filter_eq_self]
  intro p hp
  simp
  rintro rfl
  exact h (List.mem_map_of_mem (f := Prod.fst) hp)
theorem remL_at (hn : (idsL L).Nodup) {i : Nat} (hi : i < L.length) : remL L L[i].1 = L.take i ++ L.drop (i + 1) := by
  induction L generalizing i with
  | nil => simp at hi
  | cons p L ih =>
    simp only [idsL, List.map_cons, List.nodup_cons] at hn
    cases i with
    | zero =>
      unfold remL
      rw [List.getElem_cons_zero, List.filter_cons_of_neg (by simp)]
      rw [List.take_zero, List.nil_append, List.drop_succ_cons, List.drop_zero, List.filter_eq_self]
      intro q hq
      simp only [decide_eq_true_eq]
      intro e
      exact hn.1 (by rw [← e]; exact List.mem_map_of_mem (f := Prod.fst) hq)
    | succ i =>
      have hi' : i < L.length := by simpa using hi
      have hne : ¬ p.1 = L[i].1 := fun q => hn.1 (by rw [q]; exact List.mem_map_of_mem (f := Prod.fst) (List.getElem_mem hi'))
      have := ih hn.2 hi'
      unfold remL at this ⊢
      rw [List.getElem_cons_succ, List.filter_cons_of_pos (by simpa using hne), this]
      rfl
theorem remL_ids {id : Int} : idsL (remL L id) = (idsL L).filter (fun z => decide (z ≠ id)) := by
  unfold idsL remL
  rw [List.filter_map]
  rfl
theorem remL_not {id : Int} : id ∉ idsL (remL L id) := by
  rw [remL_ids]
  simp
theorem remL_mem {id : Int} {p : Int × List Int} : p ∈ remL L id ↔ p ∈ L ∧ p.1 ≠ id := by
  unfold remL
  rw [List.mem_filter]
  simp
theorem remL_len1 (hn : (idsL L).Nodup) {id : Int} (h : id ∈ idsL L) : (remL L id).length + 1 = L.length := by
  obtain ⟨p, hp, rfl⟩ := List.mem_map.1 h
  obtain ⟨i, hi, rfl⟩ := List.mem_iff_getElem.1 hp
  rw [remL_at hn hi]
  simp
  omega
theorem remL_srt (h : Srt K L) (id : Int) : Srt K (remL L id) := by
  refine ⟨?_, ?_⟩
  · have : kL K (remL L id) = (kL K L).filter (fun z => decide (z.2 ≠ id)) := by
      unfold kL remL
      rw [List.filter_map]
      rfl
    rw [this]
    exact h.asc.filter _
  · rw [remL_ids]
    exact h.one.filter _
theorem kL_mem {z : It} : z ∈ kL K L ↔ ∃ p ∈ L, kI K p = z := List.mem_map
theorem kL_not {k : List Int} {id : Int} (h : id ∉ idsL L) : (k, id) ∉ kL K L := by
  intro hm
  obtain ⟨p, hp, e⟩ := kL_mem.1 hm
  injection e with _ e
  exact h (by rw [← e]; exact List.mem_map_of_mem (f := Prod.fst) hp)
theorem putL_k (L : Its) (id : Int) (t : List Int) : kL K (putL K L id t) = ins (kL K (remL L id)) (K t, id) := by
  unfold kL putL ins atL kL
  rw [List.map_append, List.map_cons, List.map_take, List.map_drop]
  rfl
theorem putL_mem {id : Int} {t : List Int} {p : Int × List Int} : p ∈ putL K L id t ↔ p = (id, t) ∨ (p ∈ L ∧ p.1 ≠ id) := by
  unfold putL
  rw [List.mem_append, List.mem_cons]
  conv => rhs; rw [← remL_mem, ← List.take_append_drop (atL K L id t) (remL L id), List.mem_append]
  constructor
  · rintro (h | h | h)
    · exact .inr (.inl h)
    · exact .inl h
    · exact .inr (.inr h)
  · rintro (h | h | h)
    · exact .inr (.inl h)
    · exact .inl h
    · exact .inr (.inr h)
theorem putL_srt (h : Srt K L) (id : Int) (t : List Int) : Srt K (putL K L id t) := by
  have hr := remL_srt h id
  refine ⟨?_, ?_⟩
  · rw [putL_k]
    exact ins_asc hr.asc (kL_not remL_not)
  · unfold putL idsL
    rw [List.map_append, List.map_cons]
    have hp : ((remL L id).take (atL K L id t) ++ (remL L id).drop (atL K L id t)) = remL L id := List.take_append_drop _ _
    have h1 := hr.one
    have h2 : id ∉ idsL (remL L id) := remL_not
    unfold idsL at h1 h2
    rw [← hp, List.map_append] at h1 h2
    rw [List.nodup_append] at h1 ⊢
    rw [List.mem_append, not_or] at h2
    refine ⟨h1.1, List.nodup_cons.2 ⟨h2.2, h1.2.1⟩, fun a ha b hb => ?_⟩
    rcases List.mem_cons.1 hb with e | e
    · intro e'
      have e2 : a = id := e'.trans e
      exact h2.1 (by rw [← e2]; rw [e2] at ha ⊢; exact ha)
    · exact h1.2.2 a ha b e
theorem putL_len {id : Int} {t : List Int} : (putL K L id t).length = (remL L id).length + 1 := by
  have := congrArg List.length (putL_k (K := K) L id t)
  rw [ins_len, kL_len, kL_len] at this
  exact this
theorem atL_le {id : Int} {t : List Int} : atL K L id t ≤ (remL L id).length := by
  unfold atL plc
  exact Nat.le_trans (cnt_le _) (by rw [kL_len]; exact Nat.le_refl _)
theorem srt_nil : Srt K [] := ⟨List.Pairwise.nil, List.nodup_nil⟩
/-- the position of an item is its place -/
theorem posL_plc (h : Srt K L) {id : Int} {t : List Int} (hm : (id, t) ∈ L) : posL L id = (plc (kL K L) (K t, id) : Nat) ∧ plc (kL K L) (K t, id) < L.length := by
  obtain ⟨i, hi, e⟩ := List.mem_iff_getElem.1 hm
  have h1 := plc_at h.asc (i := i) (by rw [kL_len]; exact hi)
  rw [kL_get i hi, e] at h1
  have h2 := posL_at h.one hi
  rw [e] at h2
  dsimp only at h1 h2
  rw [h2, h1]
  exact ⟨rfl, hi⟩
/-- how many keys are not greater -/
def fle (l : List It) (k : List Int) : Nat := l.countP (fun y => decide (cmpL y.1 k ≤ 0))
theorem fle_pw {l : List It} (h : l.Pairwise ltI) (k : List Int) : l.Pairwise (fun a b => decide (cmpL b.1 k ≤ 0) = true → decide (cmpL a.1 k ≤ 0) = true) :=
  h.imp (fun {a b} hab hb => by
    simp at hb ⊢
    rcases hab with g | ⟨g, _⟩
    · rcases Int.lt_or_eq_of_le hb with q | q
      · have := cmpL_lt_trans g q; omega
      · rw [cmpL_eq_zero] at q; rw [← q]; omega
    · rw [cmpL_eq_zero] at g; rw [g]; exact hb)
theorem fle_iff {l : List It} (h : l.Pairwise ltI) (k : List Int) (i : Nat) (hi : i < l.length) : cmpL l[i].1 k ≤ 0 ↔ i < fle l k := by
  unfold fle
  have := cnt_iff (fle_pw h k) i hi
  simpa using this
theorem frm_fle (l : List It) (k : List Int) : frm l k ≤ fle l k := by
  unfold frm fle
  refine List.countP_mono_left fun x _ hx => ?_
  simp at hx ⊢
  omega
/-- the items with one key stand together -/
theorem look_cut (h : Srt K L) (t : List Int) : (L.take (fle (kL K L) (K t))).drop (frm (kL K L) (K t)) = lookL K L t := by
  have e1 : ∀ (n m : Nat), kL K ((L.take n).drop m) = ((kL K L).take n).drop m := fun n m => by unfold kL; rw [List.map_drop, List.map_take]
  have e0 : ∀ (p : Int × List Int → Bool), L.filter p = L.filter p := fun _ => rfl
  have hp1 : L.Pairwise (fun a b => decide (cmpL (K b.2) (K t) ≤ 0) = true → decide (cmpL (K a.2) (K t) ≤ 0) = true) := by
    have := fle_pw h.asc (K t)
    unfold kL at this
    rw [List.pairwise_map] at this
    exact this
  have hp2 : L.Pairwise (fun a b => decide (cmpL (K b.2) (K t) < 0) = true → decide (cmpL (K a.2) (K t) < 0) = true) := by
    have := frm_pw h.asc (K t)
    unfold kL at this
    rw [List.pairwise_map] at this
    exact this
  have c1 : fle (kL K L) (K t) = L.countP (fun p => decide (cmpL (K p.2) (K t) ≤ 0)) := by unfold fle kL; rw [List.countP_map]; rfl
  have c2 : frm (kL K L) (K t) = L.countP (fun p => decide (cmpL (K p.2) (K t) < 0)) := by unfold frm kL; rw [List.countP_map]; rfl
  have hle := frm_fle (kL K L) (K t)
  rw [c1, c2] at hle ⊢
  exact cut_filter hp1 hp2 hle (fun p => by by_cases e : cmpL (K p.2) (K t) = 0 <;> by_cases g : cmpL (K p.2) (K t) < 0 <;> by_cases q : cmpL (K p.2) (K t) ≤ 0 <;> simp_all <;> omega)
end
end Go.Proofs.YtpfbnikbebccjaaGreatDoor.Srl
/- Steps upon a list of items: what is in it in the end. Plain. -/
namespace Go.Proofs.YtpfbnikbebccjaaGreatDoor.Srl
open Go.RowKit

/-- a call: Put of a text, or Remove; and what is asked then -/
structure Stp where
  id : Int
  text : List Int
  rm : Bool
  ask : List Int
section
variable (K : List Int → List Int)
def stepL (L : Its) (s : Stp) : Its := if s.rm = true then remL L s.id else putL K L s.id s.text
def runL (L : Its) (l : List Stp) : Its := l.foldl (stepL K) L
end
section
variable {K : List Int → List Int}
theorem stepL_srt {L : Its} (h : Srt K L) (s : Stp) : Srt K (stepL K L s) := by
  unfold stepL
  split
  · exact remL_srt h _
  · exact putL_srt h _ _
theorem runL_srt : ∀ (l : List Stp) {L : Its}, Srt K L → Srt K (runL K L l)
  | [], _, h => h
  | s :: l, _, h => runL_srt l (stepL_srt h s)
theorem stepL_mem {L : Its} {s : Stp} {p : Int × List Int} : p ∈ stepL K L s ↔ (s.rm = false ∧ p = (s.id, s.text)) ∨ (p ∈ L ∧ p.1 ≠ s.id) := by
  unfold stepL
  cases h : s.rm with
  | true =>
    rw [if_pos rfl, remL_mem]
    simp
  | false =>
    rw [if_neg (by decide), putL_mem]
    simp
/-- how many steps are the last ones with their numbers, and put -/
def cntL : List Stp → Nat
  | [] => 0
  | s :: l => (if (l.all fun s' => decide (s'.id ≠ s.id)) && !s.rm then 1 else 0) + cntL l
theorem cntL_cons (s : Stp) (l : List Stp) : cntL (s :: l) = (if (l.all fun s' => decide (s'.id ≠ s.id)) && !s.rm then 1 else 0) + cntL l := rfl
theorem rem_cnt (L : Its) (id : Int) (q : Int → Bool) : (idsL (remL L id)).countP q = (idsL L).countP (fun z => q z && decide (z ≠ id)) := by
  rw [remL_ids, List.countP_filter]
theorem put_cnt (L : Its) (id : Int) (t : List Int) (q : Int → Bool) : (idsL (putL K L id t)).countP q = (idsL L).countP (fun z => q z && decide (z ≠ id)) + (if q id = true then 1 else 0) := by
  unfold putL
  rw [← rem_cnt L id q]
  conv => rhs; rw [← List.take_append_drop (atL K L id t) (remL L id)]
  simp only [idsL, List.map_append, List.map_cons, List.countP_append, List.countP_cons]
  omega
theorem runL_cnt : ∀ (l : List Stp) {L : Its}, Srt K L → (runL K L l).length = cntL l + (idsL L).countP (fun z => l.all fun s => decide (s.id ≠ z))
  | [], L, h => by
    simp [runL, cntL, idsL]
  | s :: l, L, h => by
    have ih := runL_cnt l (stepL_srt h s)
    show (runL K (stepL K L s) l).length = _
    rw [ih]
    have e1 : (idsL L).countP (fun z => (s :: l).all fun s => decide (s.id ≠ z)) = (idsL L).countP (fun z => (l.all fun s => decide (s.id ≠ z)) && decide (z ≠ s.id)) := by
      refine List.countP_congr fun z _ => ?_
      simp only [List.all_cons, Bool.and_eq_true, decide_eq_true_eq]
      constructor
      · rintro ⟨a, b⟩; exact ⟨b, fun e => a e.symm⟩
      · rintro ⟨a, b⟩; exact ⟨fun e => b e.symm, a⟩
    rw [e1]
    rw [cntL_cons]
    unfold stepL
    cases hr : s.rm with
    | true =>
      rw [if_pos rfl, rem_cnt L s.id _]
      simp
    | false =>
      rw [if_neg (by decide), put_cnt L s.id s.text _]
      simp only [Bool.not_false, Bool.and_true]
      omega
/-- the order in which different numbers are put does not matter -/
theorem srt_eq {L M : Its} (hL : Srt K L) (hM : Srt K M) (h : ∀ p, p ∈ L ↔ p ∈ M) : kL K L = kL K M :=
  asc_unique hL.asc hM.asc fun t => by
    rw [kL_mem, kL_mem]
    exact ⟨fun ⟨p, hp, e⟩ => ⟨p, (h p).1 hp, e⟩, fun ⟨p, hp, e⟩ => ⟨p, (h p).2 hp, e⟩⟩
theorem kL_ids (L : Its) : (kL K L).map Prod.snd = idsL L := by unfold kL idsL; rw [List.map_map]; rfl
theorem runL_puts : ∀ (l : List Stp) {L : Its} {p : Int × List Int}, (∀ s ∈ l, s.rm = false) → l.Pairwise (fun a b => a.id ≠ b.id) → (∀ s ∈ l, s.id ∉ idsL L) → (p ∈ runL K L l ↔ p ∈ L ∨ ∃ s ∈ l, p = (s.id, s.text))
  | [], L, p, _, _, _ => by simp [runL]
  | s :: l, L, p, h1, h2, h3 => by
    rw [List.pairwise_cons] at h2
    show p ∈ runL K (stepL K L s) l ↔ _
    have h4 := h3 s List.mem_cons_self
    rw [runL_puts l (fun s' hs' => h1 s' (List.mem_cons_of_mem _ hs')) h2.2 (fun s' hs' hin => ?_), stepL_mem]
    · constructor
      · rintro ((⟨_, g⟩ | g) | ⟨s', hs', g⟩)
        · exact .inr ⟨s, List.mem_cons_self, g⟩
        · exact .inl g.1
        · exact .inr ⟨s', List.mem_cons_of_mem _ hs', g⟩
      · rintro (g | ⟨s', hs', g⟩)
        · exact .inl (.inr ⟨g, fun e => h4 (by rw [← e]; exact List.mem_map_of_mem (f := Prod.fst) g)⟩)
        · rcases List.mem_cons.1 hs' with rfl | hs'
          · exact .inl (.inl ⟨h1 _ List.mem_cons_self, g⟩)
          · exact .inr ⟨s', hs', g⟩
    · obtain ⟨p', hp', e'⟩ := List.mem_map.1 hin
      rcases stepL_mem.1 hp' with ⟨_, g⟩ | g
      · rw [g] at e'
        exact h2.1 s' hs' e'
      · exact h3 s' (List.mem_cons_of_mem _ hs') (by rw [← e']; exact List.mem_map_of_mem (f := Prod.fst) g.1)
theorem turns {l : List Stp} (h1 : ∀ s ∈ l, s.rm = false) (h2 : l.Pairwise (fun a b => a.id ≠ b.id)) : idsL (runL K [] l) = idsL (runL K [] l.reverse) ∧ (runL K [] l).length = l.length := by
  have h3 : ∀ s ∈ l, s.id ∉ idsL [] := fun s _ => by simp [idsL]
  have h2' : l.reverse.Pairwise (fun a b => a.id ≠ b.id) := by
    rw [List.pairwise_reverse]
    exact h2.imp fun h e => h e.symm
  refine ⟨?_, ?_⟩
  · rw [← kL_ids (K := K), ← kL_ids (K := K), srt_eq (runL_srt l srt_nil) (runL_srt l.reverse srt_nil) (fun p => ?_)]
    rw [runL_puts l h1 h2 h3, runL_puts l.reverse (fun s hs => h1 s (List.mem_reverse.1 hs)) h2' (fun s _ => by simp [idsL])]
    simp
  · rw [runL_cnt l srt_nil]
    have : ∀ (l : List Stp), (∀ s ∈ l, s.rm = false) → l.Pairwise (fun a b => a.id ≠ b.id) → cntL l = l.length := by
      intro l
      induction l with
      | nil => intro _ _; rfl
      | cons s l ih =>
        intro g1 g2
        rw [List.pairwise_cons] at g2
        rw [cntL_cons, ih (fun s' hs' => g1 s' (List.mem_cons_of_mem _ hs')) g2.2, g1 s List.mem_cons_self]
        have : (l.all fun s' => decide (s'.id ≠ s.id)) = true := by
          rw [List.all_eq_true]
          intro s' hs'
          have := g2.1 s' hs'
          simpa using fun e => this e.symm
        rw [this]
        simp
        omega
    rw [this l h1 h2]
    simp [idsL]
end
end Go.Proofs.YtpfbnikbebccjaaGreatDoor.Srl
/- How the arguments of chapter 55's statements are opened: a setting, steps, three texts. -/
namespace Go.Proofs.YtpfbnikbebccjaaGreatDoor
open Go.ChangeShapes Go.WideShapes Go.ChangeAt Go.RowKit Srl

/-- a slice of ints with its bounds, numbers in range -/
def Txt (w : World) (A : Option Addr) (k : Nat) (t : List Int) : Prop := Ints w A t ∧ t.length ≤ k ∧ k ≤ 9223372036854775807 ∧ ∀ z ∈ t, iok z
/-- a step in memory -/
structure StpV (w : World) (v : Int × Value × Bool × Value) (s : Stp) : Prop where
  ex : ∃ T tk A ak, v = (s.id, .slice T s.text.length tk, s.rm, .slice A s.ask.length ak) ∧ Txt w T tk s.text ∧ Txt w A ak s.ask
  ok : iok s.id
def stC (v : Int × Value × Bool × Value) : List Value := [.int .i64 v.1, v.2.1, .bool v.2.2.1, v.2.2.2]
/-- a slice of steps -/
def Stps (w : World) (A : Option Addr) (l : List Stp) : Prop := ∃ vs : List (Int × Value × Bool × Value), vs.length = l.length ∧ Recs stC w A vs ∧ ∀ i, (hi : i < l.length) → (hv : i < vs.length) → StpV w vs[i] l[i]
theorem Txt.below {w w' : World} {A : Option Addr} {k : Nat} {t : List Int} (h : Txt w A k t) (hb : Below w.heap.size w w') : Txt w' A k t := ⟨h.1.below hb, h.2⟩
theorem StpV.below {w w' : World} {v : Int × Value × Bool × Value} {s : Stp} (h : StpV w v s) (hb : Below w.heap.size w w') : StpV w' v s := by
  obtain ⟨T, tk, A, ak, e, h1, h2⟩ := h.ex
  exact ⟨⟨T, tk, A, ak, e, h1.below hb, h2.below hb⟩, h.ok⟩
theorem Stps.below {w w' : World} {A : Option Addr} {l : List Stp} (h : Stps w A l) (hb : Below w.heap.size w w') : Stps w' A l := by
  obtain ⟨vs, h1, h2, h3⟩ := h
  exact ⟨vs, h1, h2.below hb, fun i hi hv => (h3 i hi hv).below hb⟩
theorem Stps.at {w : World} {A : Option Addr} {l : List Stp} (h : Stps w A l) {m : Nat} (hm : m < l.length) :
    ∃ b o, A = some ⟨b, o, none⟩ ∧ b < w.heap.size ∧ ∀ i, (hi : i < l.length) → ∃ T tk A ak, w.cell? ⟨b, o + i * 4, none⟩ = some (.int .i64 l[i].id) ∧ w.cell? ⟨b, o + i * 4 + 1, none⟩ = some (.slice T l[i].text.length tk) ∧ w.cell? ⟨b, o + i * 4 + 2, none⟩ = some (.bool l[i].rm) ∧ w.cell? ⟨b, o + i * 4 + 3, none⟩ = some (.slice A l[i].ask.length ak) ∧ Txt w T tk l[i].text ∧ Txt w A ak l[i].ask ∧ iok l[i].id := by
  obtain ⟨vs, h1, h2, h3⟩ := h
  obtain ⟨b, o, rfl, hb, hc⟩ := Recs.at 4 (fun _ => rfl) (by omega) h2 (m := m) (by omega)
  refine ⟨b, o, rfl, hb, fun i hi => ?_⟩
  obtain ⟨T, tk, A, ak, hv, e1, e2⟩ := (h3 i hi (by omega)).ex
  have ok := (h3 i hi (by omega)).ok
  have c0 := hc i (by omega) 0 _ rfl
  have c1 := hc i (by omega) 1 _ rfl
  have c2 := hc i (by omega) 2 _ rfl
  have c3 := hc i (by omega) 3 _ rfl
  rw [hv] at c0 c1 c2 c3
  exact ⟨T, tk, A, ak, c0, c1, c2, c3, e1, e2, ok⟩

section
variable {H : Type} {enc : TypeId × Value → H} {w : World} {base : Nat} {spare : Nat → Bool} {held : Bool} {fuel : Nat} {cs : List Value} {x : DataW H × List MemPlace}

theorem open_txt (h : DataW.trod enc Tryz.prog w base spare held fuel 49 cs = some x) :
    ∃ A len cap, ∃ l : List Int, cs = [.slice A len cap] ∧ l.length = len ∧ Txt w A cap l := by
  obtain ⟨A, len, cap, l, h1, h2, h3, h4, h5, h6⟩ := open_recs (α := Int) (fun z => [.int .i64 z]) 1 (by omega) (fun _ => rfl) (fun z => iok z) Tryz.underlying49 ci (fun fuel cs x hl hx => by
    obtain ⟨z, hz, _, hw⟩ := DataW.trod_int Tryz.underlying3 hx
    exact ⟨z, hz, hw⟩) h
  refine ⟨A, len, cap, l, h1, h2, ?_, by omega, h4, h6⟩
  unfold Recs flatK at h5
  unfold Ints
  rw [show l.map (Value.int .i64) = l.flatMap (fun z => [.int .i64 z]) by clear h2 h5 h6; induction l <;> simp_all]
  exact h5

set_option maxRecDepth 100000 in
theorem open_norm' (h : DataW.trod enc Tryz.prog w base spare held fuel 28 cs = some x) :
    ∃ A0 k0 A1 k1 A2 k2, ∃ C : Nrm, cs = [.slice A0 C.cls.length k0, .slice A1 C.dec.length k1, .slice A2 C.exc.length k2] ∧ NrmAt w A0 C.cls.length A1 C.dec.length A2 C.exc.length C ∧ NrmLn C := by
  obtain ⟨xs, k, hk, hxy, hcl, hxl, hfs⟩ := DataW.trod_struct Tryz.underlying28 h
  have h6 : Tryz.prog.cellsOf 28 = 3 := by kernel_rfl
  rw [h6] at hcl
  match xs, hxl, cs, hcl with
  | [y0, y1, y2], _, [v0, v1, v2], _ =>
    have g0 := hfs 0 _ rfl
    have g1 := hfs 1 _ rfl
    have g2 := hfs 2 _ rfl
    simp [mcSp, mcM, mcS] at g0 g1 g2
    obtain ⟨A0, n0, c0, l0, e0, f0, q0, r0, i0⟩ := open_spns g0
    obtain ⟨A1, n1, c1, l1, e1, f1, q1, r1, i1, s1⟩ := open_maps g1
    obtain ⟨A2, n2, c2, l2, e2, f2, q2, r2, i2⟩ := open_set rfl g2
    simp at e0 e1 e2
    subst e0; subst e1; subst e2
    subst f0; subst f1; subst f2
    exact ⟨A0, c0, A1, c1, A2, c2, ⟨l0, l1, l2⟩, rfl, ⟨i0, i1, i2, rfl, rfl, rfl⟩, ⟨by show l0.length ≤ _; omega, by show l1.length ≤ _; omega, by show l2.length ≤ _; omega, s1⟩⟩

set_option maxRecDepth 100000 in
theorem open_col' (h : DataW.trod enc Tryz.prog w base spare held fuel 32 cs = some x) :
    ∃ A a B b, ∃ c : Col, cs = [.slice A c.ents.length a, .slice B c.grps.length b, .int .i64 c.base, .int .i64 c.second, .int .i64 c.third] ∧ ColAt w A c.ents.length B c.grps.length c ∧ c.ents.length ≤ a ∧ a ≤ 9223372036854775807 ∧ c.grps.length ≤ b ∧ b ≤ 9223372036854775807 := by
  obtain ⟨xs, k, hk, hxy, hcl, hxl, hfs⟩ := DataW.trod_struct Tryz.underlying32 h
  have h5 : Tryz.prog.cellsOf 32 = 5 := by kernel_rfl
  rw [h5] at hcl
  match xs, hxl, cs, hcl with
  | [y0, y1, y2, y3, y4], _, [v0, v1, v2, v3, v4], _ =>
    have g0 := hfs 0 _ rfl
    have g1 := hfs 1 _ rfl
    have g2 := hfs 2 _ rfl
    have g3 := hfs 3 _ rfl
    have g4 := hfs 4 _ rfl
    simp [ci, cN, cG] at g0 g1 g2 g3 g4
    obtain ⟨A, n, a, l0, e0, f0, q0, r0, i0⟩ := open_ents g0
    obtain ⟨B, m, b, l1, e1, f1, q1, r1, i1, s1⟩ := open_grps g1
    obtain ⟨z2, e2, _, _⟩ := DataW.trod_int Tryz.underlying3 g2
    obtain ⟨z3, e3, _, _⟩ := DataW.trod_int Tryz.underlying3 g3
    obtain ⟨z4, e4, _, _⟩ := DataW.trod_int Tryz.underlying3 g4
    simp at e0 e1 e2 e3 e4
    subst e0; subst e1; subst e2; subst e3; subst e4; subst f0; subst f1
    exact ⟨A, a, B, b, ⟨l0, l1, z2, z3, z4⟩, rfl, ⟨i0, i1, rfl, rfl, s1⟩, q0, r0, q1, r1⟩

set_option maxRecDepth 100000 in
theorem open_opt' (h : DataW.trod enc Tryz.prog w base spare held fuel 34 cs = some x) :
    ∃ o : Opt, cs = [.int .i64 o.st, .int .i64 o.va, .bool o.bk, .bool o.idn] := by
  obtain ⟨xs, k, hk, hxy, hcl, hxl, hfs⟩ := DataW.trod_struct Tryz.underlying34 h
  have h4 : Tryz.prog.cellsOf 34 = 4 := by kernel_rfl
  rw [h4] at hcl
  match xs, hxl, cs, hcl with
  | [y0, y1, y2, y3], _, [v0, v1, v2, v3], _ =>
    have g0 := hfs 0 _ rfl
    have g1 := hfs 1 _ rfl
    have g2 := hfs 2 _ rfl
    have g3 := hfs 3 _ rfl
    simp [ci, cb'] at g0 g1 g2 g3
    obtain ⟨z0, e0, _, _⟩ := DataW.trod_int Tryz.underlying3 g0
    obtain ⟨z1, e1, _, _⟩ := DataW.trod_int Tryz.underlying3 g1
    obtain ⟨z2, e2, _⟩ := DataW.trod_bool Tryz.underlying4 g2
    obtain ⟨z3, e3, _⟩ := DataW.trod_bool Tryz.underlying4 g3
    simp at e0 e1 e2 e3
    subst e0; subst e1; subst e2; subst e3
    exact ⟨⟨z0, z1, z2, z3⟩, rfl⟩
end

/-- the values of a setting -/
structure SetV where
  A0 : Option Addr
  k0 : Nat
  A1 : Option Addr
  k1 : Nat
  A2 : Option Addr
  k2 : Nat
  C : Option Addr
  a : Nat
  B : Option Addr
  b : Nat
def setC (V : SetV) (x : Nrm) (c : Col) (o : Opt) : List Value :=
  [.slice V.A0 x.cls.length V.k0, .slice V.A1 x.dec.length V.k1, .slice V.A2 x.exc.length V.k2, .slice V.C c.ents.length V.a, .slice V.B c.grps.length V.b, .int .i64 c.base, .int .i64 c.second, .int .i64 c.third, .int .i64 o.st, .int .i64 o.va, .bool o.bk, .bool o.idn]
/-- a setting in memory -/
structure SetAt (w : World) (V : SetV) (x : Nrm) (c : Col) : Prop where
  nrm : NrmAt w V.A0 x.cls.length V.A1 x.dec.length V.A2 x.exc.length x
  ln : NrmLn x
  col : ColAt w V.C c.ents.length V.B c.grps.length c
  na : c.ents.length ≤ V.a
  aa : V.a ≤ 9223372036854775807
  mb : c.grps.length ≤ V.b
  bb : V.b ≤ 9223372036854775807
theorem SetAt.below {w w' : World} {V : SetV} {x : Nrm} {c : Col} (h : SetAt w V x c) (hb : Below w.heap.size w w') : SetAt w' V x c := { h with nrm := h.nrm.below hb, col := h.col.below hb }

section
variable {H : Type} {enc : TypeId × Value → H} {w : World} {base : Nat} {spare : Nat → Bool} {held : Bool}
theorem cNo : Tryz.prog.cellsOf 28 = 3 := by kernel_rfl
theorem cCo : Tryz.prog.cellsOf 32 = 5 := by kernel_rfl
theorem cOp : Tryz.prog.cellsOf 34 = 4 := by kernel_rfl
set_option maxRecDepth 100000 in
theorem open_setting {v : Value} {r : Reach} {b0 : Nat} {d : DataW H} {p : List MemPlace} (hok : Value.okWide Tryz.prog w r b0 36 v) (h : DataW.Trod enc Tryz.prog w base spare held 36 v d p) :
    ∃ (V : SetV) (x : Nrm) (c : Col) (o : Opt), v = .agg (setC V x c o).toArray ∧ SetAt w V x c := by
  obtain ⟨fuel, hf⟩ := h
  obtain ⟨cs, rfl, _⟩ := okWide_struct Tryz.underlying36 hok
  obtain ⟨xs, k, hk, hxy, hcl, hxl, hfs⟩ := DataW.trod_struct Tryz.underlying36 hf
  have h12 : Tryz.prog.cellsOf 36 = 12 := by kernel_rfl
  rw [h12] at hcl
  obtain ⟨cs⟩ := cs
  simp only [Value.cells] at hcl hfs
  match xs, hxl, cs, hcl with
  | [y0, y1, y2], _, [v0, v1, v2, v3, v4, v5, v6, v7, v8, v9, v10, v11], _ =>
    have g0 := hfs 0 _ rfl
    have g1 := hfs 1 _ rfl
    have g2 := hfs 2 _ rfl
    simp [cNo, cCo, cOp] at g0 g1 g2
    obtain ⟨A0, k0, A1, k1, A2, k2, x, e0, i0, j0⟩ := open_norm' g0
    obtain ⟨C, a, B, b, c, e1, i1, q1, r1, q2, r2⟩ := open_col' g1
    obtain ⟨o, e2⟩ := open_opt' g2
    simp at e0 e1 e2
    obtain ⟨rfl, rfl, rfl⟩ := e0
    obtain ⟨rfl, rfl, rfl, rfl, rfl⟩ := e1
    obtain ⟨rfl, rfl, rfl, rfl⟩ := e2
    exact ⟨⟨A0, k0, A1, k1, A2, k2, C, a, B, b⟩, x, c, o, rfl, ⟨i0, j0, i1, q1, r1, q2, r2⟩⟩

set_option maxRecDepth 100000 in
theorem open_steps {fuel : Nat} {cs : List Value} {x : DataW H × List MemPlace} (h : DataW.trod enc Tryz.prog w base spare held fuel 37 cs = some x) :
    ∃ A len cap, ∃ l : List Stp, cs = [.slice A len cap] ∧ l.length = len ∧ len ≤ cap ∧ cap ≤ 9223372036854775807 ∧ Stps w A l := by
  have : Inhabited (Int × Value × Bool × Value) := ⟨(0, .bool false, false, .bool false)⟩
  obtain ⟨A, len, cap, vs, h1, h2, h3, h4, h5, h6⟩ := open_recs (α := Int × Value × Bool × Value) stC 4 (by omega) (fun _ => rfl) (fun v => ∃ x, StpV w v x) Tryz.underlying37 (by kernel_rfl) (fun fuel cs x hl hx => by
    obtain ⟨xs, k, hk, hxy, _, hxl, hfs⟩ := DataW.trod_struct Tryz.underlying51 hx
    match xs, hxl, cs, hl with
    | [y0, y1, y2, y3], _, [v0, v1, v2, v3], _ =>
      have g0 := hfs 0 _ rfl
      have g1 := hfs 1 _ rfl
      have g2 := hfs 2 _ rfl
      have g3 := hfs 3 _ rfl
      simp [ci, cI, cb'] at g0 g1 g2 g3
      obtain ⟨z0, e0, _, w0⟩ := DataW.trod_int Tryz.underlying3 g0
      obtain ⟨A1, n1, c1, l1, e1, f1, i1⟩ := open_txt g1
      obtain ⟨z2, e2, _⟩ := DataW.trod_bool Tryz.underlying4 g2
      obtain ⟨A3, n3, c3, l3, e3, f3, i3⟩ := open_txt g3
      simp at e0 e1 e2 e3
      subst e0; subst e1; subst e2; subst e3; subst f1; subst f3
      exact ⟨(z0, .slice A1 l1.length c1, z2, .slice A3 l3.length c3), rfl, ⟨z0, l1, z2, l3⟩, ⟨A1, c1, A3, c3, rfl, i1, i3⟩, w0⟩) h
  have each : ∀ i, i < vs.length → ∃ y : Stp, ∀ hv : i < vs.length, StpV w vs[i] y := fun i hi => by
    obtain ⟨y, hy⟩ := h6 _ (List.getElem_mem hi)
    exact ⟨y, fun _ => hy⟩
  have : Inhabited Stp := ⟨⟨0, [], false, []⟩⟩
  obtain ⟨V, hV⟩ := Deep.choose_lt each
  refine ⟨A, len, cap, (List.range vs.length).map V, h1, by simpa using h2, h3, h4, vs, by simp, h5, fun i hi hv => ?_⟩
  have := hV i hv hv
  simpa using this

set_option maxRecDepth 100000 in
theorem open_three {v : Value} {r : Reach} {b0 : Nat} {d : DataW H} {p : List MemPlace} (hok : Value.okWide Tryz.prog w r b0 75 v) (h : DataW.Trod enc Tryz.prog w base spare held 75 v d p) :
    ∃ A0 k0 A1 k1 A2 k2, ∃ t0 t1 t2 : List Int, v = .agg #[.slice A0 t0.length k0, .slice A1 t1.length k1, .slice A2 t2.length k2] ∧ Txt w A0 k0 t0 ∧ Txt w A1 k1 t1 ∧ Txt w A2 k2 t2 := by
  obtain ⟨fuel, hf⟩ := h
  have hok' := hok
  simp only [Value.okWide, Tryz.underlying75] at hok'
  obtain ⟨cs, rfl, _⟩ := hok'
  obtain ⟨xs, k, hk, hxy, hcl, hxl, hfs⟩ := DataW.trod_array Tryz.underlying75 hf
  obtain ⟨cs⟩ := cs
  simp only [Value.cells] at hcl hfs
  match xs, hxl with
  | [y0, y1, y2], _ =>
    have g0 := hfs 0 (by omega)
    have g1 := hfs 1 (by omega)
    have g2 := hfs 2 (by omega)
    simp [cI] at g0 g1 g2 hcl
    obtain ⟨A0, n0, c0, l0, e0, f0, i0⟩ := open_txt g0
    obtain ⟨A1, n1, c1, l1, e1, f1, i1⟩ := open_txt g1
    obtain ⟨A2, n2, c2, l2, e2, f2, i2⟩ := open_txt g2
    match cs, hcl with
    | [v0, v1, v2], _ =>
      simp at e0 e1 e2
      subst e0; subst e1; subst e2; subst f0; subst f1; subst f2
      exact ⟨A0, c0, A1, c1, A2, c2, l0, l1, l2, rfl, i0, i1, i2⟩
theorem open_stps {A : Option Addr} {n c : Nat} {d : DataW H} {p : List MemPlace} (h : DataW.Trod enc Tryz.prog w base spare held 37 (.slice A n c) d p) :
    ∃ l : List Stp, l.length = n ∧ n ≤ c ∧ c ≤ 9223372036854775807 ∧ Stps w A l := by
  obtain ⟨fuel, hf⟩ := h
  obtain ⟨A', n', c', l, e, h1, h2, h3, h4⟩ := open_steps hf
  have e' : [Value.slice A n c] = [.slice A' n' c'] := e
  injection e' with e' _
  injection e' with ea en ec
  subst ea; subst en; subst ec
  exact ⟨l, h1, h2, h3, h4⟩
end
end Go.Proofs.YtpfbnikbebccjaaGreatDoor
/- The contract of the reference's Small of collations. -/
namespace Go.Proofs.YtpfbnikbebccjaaGreatDoor
open Go.RowKit Go.Maps Go.WideMaps

section
variable {c : Col}
end

end Go.Proofs.YtpfbnikbebccjaaGreatDoor
/- Contracts of Check of options, the program's and the reference's. -/
namespace Go.Proofs.YtpfbnikbebccjaaGreatDoor
open Go.RowKit

/-- the first error of options -/
def optErr (o : Opt) : Int := if o.st < 1 ∨ 4 < o.st then 1 else if o.va = 1 ∨ o.va = 2 ∨ o.va = 3 then 0 else 8
theorem optErr_ok (o : Opt) : optErr o = 0 ↔ optOk o = true := by
  unfold optErr optOk
  simp
  split
  · omega
  · split <;> omega
set_option maxRecDepth 100000 in
set_option maxHeartbeats 1600000 in
theorem skCheck_any (o : Opt) (w : World) : Calls Tryz.prog 37 #[.agg #[.int .i64 o.st, .int .i64 o.va, .bool o.bk, .bool o.idn]] w (fun e w' => e = .returned (.int .i64 (optErr o)) ∧ Below w.heap.size w w') := by
  obtain ⟨st, va, bk, idn⟩ := o
  have HE := Lib.hid (show optErr ⟨st, va, bk, idn⟩ = if st < 1 ∨ 4 < st then 1 else if va = 1 ∨ va = 2 ∨ va = 3 then 0 else 8 from rfl)
  generalize optErr ⟨st, va, bk, idn⟩ = r at *
  have B0 : Below w.heap.size w (w.alloc (.cells #[.int .i64 st, .int .i64 va, .bool bk, .bool idn] 34)) := (Below.refl _ _).alloc (Nat.le_refl _) _
  dsimp only
  go_enter Tryz.func37, Tryz.ntmps37
  by_cases h1 : st < 1
  · have d1 : decide (st < 1) = true := by simpa using h1
    obtain rfl : r = 1 := by rw [HE.out, if_pos (.inl h1)]
    clear HE
    go_wp2_with fail
    go_ret
    exact ⟨rfl, B0⟩
  · have d1 : decide (st < 1) = false := by simpa using h1
    by_cases h2 : 4 < st
    · have d2 : decide (4 < st) = true := by simpa using h2
      obtain rfl : r = 1 := by rw [HE.out, if_pos (.inr h2)]
      clear HE
      go_wp2_with fail
      go_ret
      exact ⟨rfl, B0⟩
    · have d2 : decide (4 < st) = false := by simpa using h2
      have HF := Lib.hid (show r = if va = 1 ∨ va = 2 ∨ va = 3 then 0 else 8 from by rw [HE.out, if_neg (by omega)])
      clear HE
      by_cases h3 : va = 1
      · have d3 : (va == 1) = true := by simpa using h3
        obtain rfl : r = 0 := by rw [HF.out, if_pos (.inl h3)]
        clear HF h3
        go_wp2_with fail
        go_ret
        exact ⟨rfl, B0⟩
      · have d3 : (va == 1) = false := by simpa using h3
        by_cases h4 : va = 2
        · have d4 : (va == 2) = true := by simpa using h4
          obtain rfl : r = 0 := by rw [HF.out, if_pos (.inr (.inl h4))]
          clear HF h3 h4
          go_wp2_with fail
          go_ret
          exact ⟨rfl, B0⟩
        · have d4 : (va == 2) = false := by simpa using h4
          by_cases h5 : va = 3
          · have d5 : (va == 3) = true := by simpa using h5
            obtain rfl : r = 0 := by rw [HF.out, if_pos (.inr (.inr h5))]
            clear HF h3 h4 h5
            go_wp2_with fail
            go_ret
            exact ⟨rfl, B0⟩
          · have d5 : (va == 3) = false := by simpa using h5
            obtain rfl : r = 8 := by rw [HF.out, if_neg (by omega)]
            clear HF h3 h4 h5
            go_wp2_with fail
            go_ret
            exact ⟨rfl, B0⟩
end Go.Proofs.YtpfbnikbebccjaaGreatDoor
/- A row of ints inside a block that may be written: its cells, a store into it, what else is kept. No program in sight. -/
namespace Go.Proofs.YtpfbnikbebccjaaGreatDoor
open Go.RowKit

/-- block b holds pre, then the cells cs, then post; nothing of it is frozen -/
def Blk (w : World) (b : Nat) (e : TypeId) (pre cs post : List Value) : Prop := w.heap[b]? = some (.cells (pre ++ cs ++ post).toArray e (0, 0))

/-- the ints d lie in block b from offset off on -/
def Row (w : World) (b off : Nat) (e : TypeId) (pre post : List Value) (d : List Int) : Prop := pre.length = off ∧ Blk w b e pre (d.map (Value.int .i64)) post

section
variable {w w' : World} {b off : Nat} {e : TypeId} {pre post : List Value} {d : List Int}

theorem Blk.lt {cs : List Value} (h : Blk w b e pre cs post) : b < w.heap.size := (Array.getElem?_eq_some_iff.1 h).1
theorem Row.lt (h : Row w b off e pre post d) : b < w.heap.size := Blk.lt h.2

theorem Row.cell (h : Row w b off e pre post d) {i : Nat} {x : Int} (hi : d[i]? = some x) : w.cell? ⟨b, off + i, none⟩ = some (.int .i64 x) := by
  rw [cell_of_row w b (off + i) _ e (0, 0) h.2]
  have hl : i < d.length := (List.getElem?_eq_some_iff.1 hi).1
  rw [List.getElem?_toArray, List.append_assoc, List.getElem?_append_right (by have := h.1; omega), List.getElem?_append_left (by simp; have := h.1; omega), List.getElem?_map]
  rw [show off + i - pre.length = i by have := h.1; omega, hi]
  rfl

theorem Row.frozen (h : Row w b off e pre post d) (i : Nat) : w.frozen? ⟨b, i, none⟩ = false := by
  have h2 := h.2
  unfold Blk at h2
  simp [World.frozen?, h2]

theorem Row.set (h : Row w b off e pre post d) {i : Nat} (hi : i < d.length) (v : Int) : Row (w.setCell ⟨b, off + i, none⟩ (.int .i64 v)) b off e pre post (d.set i v) := by
  refine ⟨h.1, ?_⟩
  have h2 := h.2
  have h1 := h.1
  unfold Blk at h2 ⊢
  simp only [World.setCell, Array.getElem?_modify, h2]
  simp only [if_true, Option.map_some, Option.some.injEq, Obj.cells.injEq, and_true]
  apply Array.ext'
  simp only [Option.isSome_none, Bool.false_eq_true, if_false, Array.toList_setIfInBounds, List.map_set]
  rw [List.append_assoc, List.set_append_right _ _ (by omega), List.set_append_left _ _ (by simp; omega), show off + i - pre.length = i by omega, ← List.append_assoc]

theorem Row.keep (h : Row w b off e pre post d) (hb : w'.heap[b]? = w.heap[b]?) : Row w' b off e pre post d := ⟨h.1, hb.trans h.2⟩
theorem Row.drewN (h : Row w b off e pre post d) (n : Nat) : Row (w.drewN n) b off e pre post d := h
theorem Row.drew (h : Row w b off e pre post d) : Row w.drew b off e pre post d := h
theorem Row.below (h : Row w b off e pre post d) (hb : Below w.heap.size w w') : Row w' b off e pre post d := h.keep (hb.block b h.lt)

theorem grownR_refl (w : World) (r : Option Nat) : w.grownBy w r := ⟨rfl, rfl, rfl, Nat.le_refl _, fun _ _ _ => rfl⟩
theorem grownR_trans {a c : World} {r : Option Nat} (h : a.grownBy w r) (g : w.grownBy c r) : a.grownBy c r :=
  ⟨g.os.trans h.os, g.tape.trans h.tape, g.output.trans h.output, Nat.le_trans h.size g.size, fun k hk hne => (g.block k (Nat.lt_of_lt_of_le hk h.size) hne).trans (h.block k hk hne)⟩
theorem grownR_below {a : World} {r : Option Nat} (h : a.grownBy w r) (g : Below w.heap.size w w') : a.grownBy w' r :=
  grownR_trans h ⟨g.os, g.tape, g.output, g.size, fun k hk _ => g.block k hk⟩
theorem grownR_drewN {a : World} {r : Option Nat} (h : a.grownBy w r) (n : Nat) : a.grownBy (w.drewN n) r := grownR_below h (below_of_drewN w n)
theorem grownR_drew {a : World} {r : Option Nat} (h : a.grownBy w r) : a.grownBy w.drew r := grownR_below h (below_of_drewN w 1)
theorem grown_row {a : World} (h : a.grownBy w (some b)) (i : Nat) (v : Value) : a.grownBy (w.setCell ⟨b, i, none⟩ v) (some b) :=
  grownR_trans h ⟨rfl, rfl, rfl, by simp [World.setCell], fun k _ hne => Below.heap_setCell _ _ _ _ (by rintro rfl; exact hne rfl)⟩
end

end Go.Proofs.YtpfbnikbebccjaaGreatDoor
