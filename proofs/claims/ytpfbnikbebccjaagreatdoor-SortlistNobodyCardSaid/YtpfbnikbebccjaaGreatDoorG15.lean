/- Texts that are merged into one file: SkRows, SlClone, SlRows, MapC, HeldApp, RDCheck, OCanonB, CpsText, CpsPlain, NormUs, ORefSort, RefText. -/
import Derived.Test.YtpfbnikbebccjaaGreatDoorG01
import Derived.Test.YtpfbnikbebccjaaGreatDoorG02
import Derived.Test.YtpfbnikbebccjaaGreatDoorG03
import Derived.Test.YtpfbnikbebccjaaGreatDoorG04
import Derived.Test.YtpfbnikbebccjaaGreatDoorG05
import Derived.Test.YtpfbnikbebccjaaGreatDoorG07
import Derived.Test.YtpfbnikbebccjaaGreatDoorG08
import Derived.Test.YtpfbnikbebccjaaGreatDoorG10
import Derived.Test.YtpfbnikbebccjaaGreatDoorG11
import Derived.Test.YtpfbnikbebccjaaGreatDoorG14
/- Four rows of ints that are owned, apart from each other; the cells that hold them. -/
namespace Go.Proofs.YtpfbnikbebccjaaGreatDoor
open Go.RowKit

def blk (A : Option Addr) : Option Nat := A.map (fun a => a.block)
theorem ownBlock_blk (A : Option Addr) (n c : Nat) : Value.ownBlock (.slice A n c) = blk A := by cases A <;> rfl
def upd {α : Type} (f : Nat → α) (j : Nat) (v : α) : Nat → α := fun k => if k = j then v else f k
theorem upd_at {α : Type} (f : Nat → α) (j : Nat) (v : α) : upd f j v j = v := if_pos rfl
theorem upd_ne {α : Type} {f : Nat → α} {j k : Nat} {v : α} (h : k ≠ j) : upd f j v k = f k := if_neg h
structure R4 (w : World) (base : Nat) (A : Nat → Option Addr) (C : Nat → Nat) (R : Nat → List Int) : Prop where
  own : ∀ k, k < 4 → w.ownsRow base 3 1 (.slice (A k) (R k).length (C k)) (R k).length ((R k).map (Value.int .i64))
  ne : ∀ j k, j < 4 → k < 4 → j ≠ k → blk (A j) = none ∨ blk (A j) ≠ blk (A k)
section
variable {w w' : World} {base : Nat} {A : Nat → Option Addr} {C : Nat → Nat} {R : Nat → List Int}
theorem R4.nil (w : World) (base : Nat) : R4 w base (fun _ => none) (fun _ => 0) (fun _ => []) := ⟨fun _ _ => World.ownsRow_nil _ _ _ _, fun _ _ _ _ _ => .inl rfl⟩
theorem R4.lt (h : R4 w base A C R) {k q : Nat} (hk : k < 4) (hq : blk (A k) = some q) : base ≤ q ∧ q < w.heap.size := (h.own k hk).lt q (by rw [ownBlock_blk]; exact hq)
theorem R4.keep (h : R4 w base A C R) {q : Nat} (hg : w.grownBy w' (some q)) (hq : q < base) : R4 w' base A C R := by
  refine ⟨fun k hk => (h.own k hk).kept hg ?_, h.ne⟩
  rw [ownBlock_blk]
  cases hb : blk (A k) with
  | none => exact .inl rfl
  | some g =>
    right
    intro e
    injection e with e
    have := (h.lt hk hb).1
    omega
theorem R4.below (h : R4 w base A C R) (hb : Below w.heap.size w w') : R4 w' base A C R := ⟨fun k hk => own_keep (h.own k hk) hb, h.ne⟩
theorem R4.put (h : R4 w base A C R) {j : Nat} (hj : j < 4) {B : Option Addr} {k : Nat} {zs : List Int} (ho : w'.ownsRow base 3 1 (.slice B zs.length k) zs.length (zs.map (Value.int .i64))) (hg : w.grownBy w' (blk (A j))) (hB : B = A j ∨ B = some ⟨w.heap.size, 0, none⟩) :
    R4 w' base (upd A j B) (upd C j k) (upd R j zs) := by
  refine ⟨fun i hi => ?_, fun i l hi hl hne => ?_⟩
  · by_cases e : i = j
    · subst e
      rw [upd_at, upd_at, upd_at]
      exact ho
    · rw [upd_ne e, upd_ne e, upd_ne e]
      refine (h.own i hi).kept hg ?_
      rw [ownBlock_blk]
      exact h.ne i j hi hj e
  · have nb : ∀ i, i < 4 → i ≠ j → blk (A i) = none ∨ blk (A i) ≠ blk B := fun i hi e => by
      rcases hB with rfl | rfl
      · exact h.ne i j hi hj e
      · cases hb : blk (A i) with
        | none => exact .inl rfl
        | some g =>
          right
          intro e2
          have e3 : g = w.heap.size := by injection e2
          have := (h.lt hi hb).2
          omega
    by_cases e : i = j
    · subst e
      rw [upd_at, upd_ne (fun g => hne g.symm)]
      cases hb : blk B with
      | none => exact .inl rfl
      | some g =>
        right
        rcases nb l hl (fun g => hne g.symm) with g1 | g1
        · rw [g1]; simp
        · rw [hb] at g1; exact fun e => g1 e.symm
    · rw [upd_ne e]
      by_cases e2 : l = j
      · subst e2
        rw [upd_at]
        exact nb i hi e
      · rw [upd_ne e2]
        exact h.ne i l hi hl hne
end
/-- the cells that hold the rows -/
def lcs (A : Nat → Option Addr) (C : Nat → Nat) (R : Nat → List Int) : List Value := [.slice (A 0) (R 0).length (C 0), .slice (A 1) (R 1).length (C 1), .slice (A 2) (R 2).length (C 2), .slice (A 3) (R 3).length (C 3)]
theorem lcs_put (A : Nat → Option Addr) (C : Nat → Nat) (R : Nat → List Int) {j : Nat} (hj : j < 4) (B : Option Addr) (k : Nat) (zs : List Int) : (lcs A C R).set j (.slice B zs.length k) = lcs (upd A j B) (upd C j k) (upd R j zs) := by
  match j, hj with
  | 0, _ => rfl
  | 1, _ => rfl
  | 2, _ => rfl
  | 3, _ => rfl
theorem lcs_len (A : Nat → Option Addr) (C : Nat → Nat) (R : Nat → List Int) : (lcs A C R).length = 4 := rfl
/-- rows in the middle of a round: the first j have got their weight -/
def mixR (r r' : Nat → List Int) (j : Nat) : Nat → List Int := fun k => if k < j then r' k else r k
theorem mixR_zero (r r' : Nat → List Int) : mixR r r' 0 = r := by funext k; unfold mixR; rw [if_neg (by omega)]
theorem mixR_next {r r' : Nat → List Int} {j : Nat} : upd (mixR r r' j) j (r' j) = mixR r r' (j + 1) := by
  funext k
  unfold upd mixR
  by_cases e : k = j
  · subst e; rw [if_pos rfl, if_pos (by omega)]
  · rw [if_neg e]
    by_cases g : k < j
    · rw [if_pos g, if_pos (by omega)]
    · rw [if_neg g, if_neg (by omega)]
theorem mixR_same {r r' : Nat → List Int} {j : Nat} (h : r' j = r j) : mixR r r' (j + 1) = mixR r r' j := by
  funext k
  unfold mixR
  by_cases e : k = j
  · subst e; rw [if_pos (by omega), if_neg (by omega), h]
  · by_cases g : k < j
    · rw [if_pos g, if_pos (by omega)]
    · rw [if_neg g, if_neg (by omega)]
theorem mixR_all {r r' : Nat → List Int} {A : Nat → Option Addr} {C : Nat → Nat} {w : World} {base : Nat} (h : R4 w base A C (mixR r r' 4)) : R4 w base A C r' ∧ lcs A C (mixR r r' 4) = lcs A C r' :=
  ⟨⟨fun k hk => by have := h.own k hk; unfold mixR at this; simp only [if_pos hk] at this; exact this, h.ne⟩, rfl⟩
/-- the first of the cells asq a list of rows -/
theorem rows_lcs {w : World} {base : Nat} {A : Nat → Option Addr} {C : Nat → Nat} {R : Nat → List Int} (h : R4 w base A C R) {k : Nat} (hk : k ≤ 4) {E : Option Addr} (hE : Sl w E ((lcs A C R).take k)) : RowsAt w E ((List.range k).map R) := by
  refine ⟨(lcs A C R).take k, hE, by rw [List.length_take, lcs_len]; simp; omega, fun i hi hv => ?_⟩
  have hi4 : i < 4 := by simp at hi; omega
  refine ⟨A i, C i, ?_, ?_, ?_⟩
  · rw [List.getElem_take, List.getElem_map, List.getElem_range]
    match i, hi4 with
    | 0, _ => rfl
    | 1, _ => rfl
    | 2, _ => rfl
    | 3, _ => rfl
  · rw [List.getElem_map, List.getElem_range]
    obtain ⟨_, _, hv, hc⟩ := own_form (h.own i hi4)
    injection hv with _ _ hv
    subst hv
    exact hc
  · rw [List.getElem_map, List.getElem_range]
    exact Sl.of_own (h.own i hi4)
end Go.Proofs.YtpfbnikbebccjaaGreatDoor
/- The contracts of slices.Clone at spans, ranges, mappings, groups, entries: a row of the same cells that the caller owns. Written by gen_slclone.py. -/
namespace Go.Proofs.YtpfbnikbebccjaaGreatDoor
open Go.RowKit Go.Maps Go.WideMaps

/-- cells are copied into a row that the caller owns -/
def RetOwnC (t : TypeId) (k n : Nat) (cs : List Value) (w : World) (e : Ending) (w' : World) : Prop := ∃ A c, e = .returned (.slice A n c) ∧ w'.ownsRow w.heap.size t k (.slice A n c) n cs ∧ Below w.heap.size w w'

theorem infoC_Span : (Tryz.prog.info? 123).map (fun i => (i.zero, i.size, i.bytes)) = some (some (.agg #[.int .i64 0, .int .i64 0, .int .i64 0]), 3, 24) := by kernel_rfl
theorem cloneSpan_raw (A : Option Addr) (n k : Nat) (cs : List Value) (w : World) (hA : Sl w A cs) (hl : cs.length = n * 3) (h1 : ∀ u ∈ cs, u.oneCell' = true) (hb : n ≤ 1048576) :
    Calls Tryz.prog 67 #[.slice A n k] w (RetOwnC 123 3 n cs w) := by
  cases A with
  | none =>
    have hz : cs = [] := by
      cases cs with
      | nil => rfl
      | cons z r => obtain ⟨b, o, h, _⟩ := hA (by simp); cases h
    subst hz
    have hn : n = 0 := by simp at hl; omega
    subst hn
    have hnil := fun (W : World) n c => Lib.run_eql_slice_nil (P := Tryz.prog) W 22 123 none n c 0 0 Tryz.underlying22
    go_enter Tryz.func67, Tryz.ntmps67
    go_wp2
    go_ret
    exact ⟨none, 0, rfl, World.ownsRow_nil _ _ _ _, Below.refl _ _⟩
  | some a =>
    have hnil := fun (W : World) n c => Lib.run_eql_slice_nil (P := Tryz.prog) W 22 123 (some a) n c 0 0 Tryz.underlying22
    go_enter Tryz.func67, Tryz.ntmps67
    go_wp2_with (at_builtin; refine wpList_app _ _ 22 123 (.agg #[.int .i64 0, .int .i64 0, .int .i64 0]) 3 24 rfl rfl Tryz.underlying22 infoC_Span rfl (by decide) (by decide) rfl (own_new [] 123 3 0 w.heap.size rfl rfl (Nat.le_refl _) (by omega)) rfl (Sl.alloc hA _) hl h1 (by omega) (by simp) ?_; intro A1 c1 w1 hown1 hc1 hb1 _ _; simp only [Nat.zero_add, List.nil_append] at hown1 hc1)
    go_ret
    exact ⟨A1, c1, rfl, hown1, ((Below.refl _ _).alloc (Nat.le_refl _) _).trans hb1⟩

theorem infoC_Range : (Tryz.prog.info? 126).map (fun i => (i.zero, i.size, i.bytes)) = some (some (.agg #[.int .i64 0, .int .i64 0]), 2, 16) := by kernel_rfl
theorem cloneRange_raw (A : Option Addr) (n k : Nat) (cs : List Value) (w : World) (hA : Sl w A cs) (hl : cs.length = n * 2) (h1 : ∀ u ∈ cs, u.oneCell' = true) (hb : n ≤ 1048576) :
    Calls Tryz.prog 68 #[.slice A n k] w (RetOwnC 126 2 n cs w) := by
  cases A with
  | none =>
    have hz : cs = [] := by
      cases cs with
      | nil => rfl
      | cons z r => obtain ⟨b, o, h, _⟩ := hA (by simp); cases h
    subst hz
    have hn : n = 0 := by simp at hl; omega
    subst hn
    have hnil := fun (W : World) n c => Lib.run_eql_slice_nil (P := Tryz.prog) W 24 126 none n c 0 0 Tryz.underlying24
    go_enter Tryz.func68, Tryz.ntmps68
    go_wp2
    go_ret
    exact ⟨none, 0, rfl, World.ownsRow_nil _ _ _ _, Below.refl _ _⟩
  | some a =>
    have hnil := fun (W : World) n c => Lib.run_eql_slice_nil (P := Tryz.prog) W 24 126 (some a) n c 0 0 Tryz.underlying24
    go_enter Tryz.func68, Tryz.ntmps68
    go_wp2_with (at_builtin; refine wpList_app _ _ 24 126 (.agg #[.int .i64 0, .int .i64 0]) 2 16 rfl rfl Tryz.underlying24 infoC_Range rfl (by decide) (by decide) rfl (own_new [] 126 2 0 w.heap.size rfl rfl (Nat.le_refl _) (by omega)) rfl (Sl.alloc hA _) hl h1 (by omega) (by simp) ?_; intro A1 c1 w1 hown1 hc1 hb1 _ _; simp only [Nat.zero_add, List.nil_append] at hown1 hc1)
    go_ret
    exact ⟨A1, c1, rfl, hown1, ((Below.refl _ _).alloc (Nat.le_refl _) _).trans hb1⟩

theorem infoC_Mapping : (Tryz.prog.info? 116).map (fun i => (i.zero, i.size, i.bytes)) = some (some (.agg #[.int .i64 0, .slice none 0 0, .string .empty]), 3, 48) := by kernel_rfl
theorem cloneMapping_raw (A : Option Addr) (n k : Nat) (cs : List Value) (w : World) (hA : Sl w A cs) (hl : cs.length = n * 3) (h1 : ∀ u ∈ cs, u.oneCell' = true) (hb : n ≤ 1048576) :
    Calls Tryz.prog 69 #[.slice A n k] w (RetOwnC 116 3 n cs w) := by
  cases A with
  | none =>
    have hz : cs = [] := by
      cases cs with
      | nil => rfl
      | cons z r => obtain ⟨b, o, h, _⟩ := hA (by simp); cases h
    subst hz
    have hn : n = 0 := by simp at hl; omega
    subst hn
    have hnil := fun (W : World) n c => Lib.run_eql_slice_nil (P := Tryz.prog) W 23 116 none n c 0 0 Tryz.underlying23
    go_enter Tryz.func69, Tryz.ntmps69
    go_wp2
    go_ret
    exact ⟨none, 0, rfl, World.ownsRow_nil _ _ _ _, Below.refl _ _⟩
  | some a =>
    have hnil := fun (W : World) n c => Lib.run_eql_slice_nil (P := Tryz.prog) W 23 116 (some a) n c 0 0 Tryz.underlying23
    go_enter Tryz.func69, Tryz.ntmps69
    go_wp2_with (at_builtin; refine wpList_app _ _ 23 116 (.agg #[.int .i64 0, .slice none 0 0, .string .empty]) 3 48 rfl rfl Tryz.underlying23 infoC_Mapping rfl (by decide) (by decide) rfl (own_new [] 116 3 0 w.heap.size rfl rfl (Nat.le_refl _) (by omega)) rfl (Sl.alloc hA _) hl h1 (by omega) (by simp) ?_; intro A1 c1 w1 hown1 hc1 hb1 _ _; simp only [Nat.zero_add, List.nil_append] at hown1 hc1)
    go_ret
    exact ⟨A1, c1, rfl, hown1, ((Below.refl _ _).alloc (Nat.le_refl _) _).trans hb1⟩

theorem infoC_Group : (Tryz.prog.info? 130).map (fun i => (i.zero, i.size, i.bytes)) = some (some (.agg #[.string .empty, .int .i64 0, .int .i64 0]), 3, 32) := by kernel_rfl
theorem cloneGroup_raw (A : Option Addr) (n k : Nat) (cs : List Value) (w : World) (hA : Sl w A cs) (hl : cs.length = n * 3) (h1 : ∀ u ∈ cs, u.oneCell' = true) (hb : n ≤ 1048576) :
    Calls Tryz.prog 70 #[.slice A n k] w (RetOwnC 130 3 n cs w) := by
  cases A with
  | none =>
    have hz : cs = [] := by
      cases cs with
      | nil => rfl
      | cons z r => obtain ⟨b, o, h, _⟩ := hA (by simp); cases h
    subst hz
    have hn : n = 0 := by simp at hl; omega
    subst hn
    have hnil := fun (W : World) n c => Lib.run_eql_slice_nil (P := Tryz.prog) W 30 130 none n c 0 0 Tryz.underlying30
    go_enter Tryz.func70, Tryz.ntmps70
    go_wp2
    go_ret
    exact ⟨none, 0, rfl, World.ownsRow_nil _ _ _ _, Below.refl _ _⟩
  | some a =>
    have hnil := fun (W : World) n c => Lib.run_eql_slice_nil (P := Tryz.prog) W 30 130 (some a) n c 0 0 Tryz.underlying30
    go_enter Tryz.func70, Tryz.ntmps70
    go_wp2_with (at_builtin; refine wpList_app _ _ 30 130 (.agg #[.string .empty, .int .i64 0, .int .i64 0]) 3 32 rfl rfl Tryz.underlying30 infoC_Group rfl (by decide) (by decide) rfl (own_new [] 130 3 0 w.heap.size rfl rfl (Nat.le_refl _) (by omega)) rfl (Sl.alloc hA _) hl h1 (by omega) (by simp) ?_; intro A1 c1 w1 hown1 hc1 hb1 _ _; simp only [Nat.zero_add, List.nil_append] at hown1 hc1)
    go_ret
    exact ⟨A1, c1, rfl, hown1, ((Below.refl _ _).alloc (Nat.le_refl _) _).trans hb1⟩

theorem infoC_Entry : (Tryz.prog.info? 109).map (fun i => (i.zero, i.size, i.bytes)) = some (some (.agg #[.slice none 0 0, .slice none 0 0]), 2, 48) := by kernel_rfl
theorem cloneEntry_raw (A : Option Addr) (n k : Nat) (cs : List Value) (w : World) (hA : Sl w A cs) (hl : cs.length = n * 2) (h1 : ∀ u ∈ cs, u.oneCell' = true) (hb : n ≤ 1048576) :
    Calls Tryz.prog 71 #[.slice A n k] w (RetOwnC 109 2 n cs w) := by
  cases A with
  | none =>
    have hz : cs = [] := by
      cases cs with
      | nil => rfl
      | cons z r => obtain ⟨b, o, h, _⟩ := hA (by simp); cases h
    subst hz
    have hn : n = 0 := by simp at hl; omega
    subst hn
    have hnil := fun (W : World) n c => Lib.run_eql_slice_nil (P := Tryz.prog) W 29 109 none n c 0 0 Tryz.underlying29
    go_enter Tryz.func71, Tryz.ntmps71
    go_wp2
    go_ret
    exact ⟨none, 0, rfl, World.ownsRow_nil _ _ _ _, Below.refl _ _⟩
  | some a =>
    have hnil := fun (W : World) n c => Lib.run_eql_slice_nil (P := Tryz.prog) W 29 109 (some a) n c 0 0 Tryz.underlying29
    go_enter Tryz.func71, Tryz.ntmps71
    go_wp2_with (at_builtin; refine wpList_app _ _ 29 109 (.agg #[.slice none 0 0, .slice none 0 0]) 2 48 rfl rfl Tryz.underlying29 infoC_Entry rfl (by decide) (by decide) rfl (own_new [] 109 2 0 w.heap.size rfl rfl (Nat.le_refl _) (by omega)) rfl (Sl.alloc hA _) hl h1 (by omega) (by simp) ?_; intro A1 c1 w1 hown1 hc1 hb1 _ _; simp only [Nat.zero_add, List.nil_append] at hown1 hc1)
    go_ret
    exact ⟨A1, c1, rfl, hown1, ((Below.refl _ _).alloc (Nat.le_refl _) _).trans hb1⟩

end Go.Proofs.YtpfbnikbebccjaaGreatDoor
/- Mappings and entries in an owned row while their parts are replaced by copies. No program in sight. -/
namespace Go.Proofs.YtpfbnikbebccjaaGreatDoor
open Go.RowKit

theorem flatK_set {α : Type} (enc : α → List Value) (k : Nat) (hk : ∀ x, (enc x).length = k) : ∀ (xs : List α) (i j : Nat) (v : Value) (y : α) (hi : i < xs.length), j < k → enc y = (enc xs[i]).set j v → (flatK enc xs).set (i * k + j) v = flatK enc (xs.set i y)
  | [], i, _, _, _, hi, _, _ => absurd hi (Nat.not_lt_zero _)
  | x :: xs, 0, j, v, y, _, hj, he => by
    have e1 : flatK enc (x :: xs) = enc x ++ flatK enc xs := by simp [flatK]
    have e2 : flatK enc ((x :: xs).set 0 y) = enc y ++ flatK enc xs := by simp [flatK]
    rw [e1, e2, he, Nat.zero_mul, Nat.zero_add, List.set_append_left _ _ (by rw [hk]; exact hj)]
    rfl
  | x :: xs, i + 1, j, v, y, hi, hj, he => by
    have e1 : flatK enc (x :: xs) = enc x ++ flatK enc xs := by simp [flatK]
    have e2 : flatK enc ((x :: xs).set (i + 1) y) = enc x ++ flatK enc (xs.set i y) := by simp [flatK]
    have hi' : i < xs.length := by simpa using hi
    rw [e1, e2, List.set_append_right _ _ (by rw [hk, Nat.add_mul]; omega), hk, show (i + 1) * k + j - k = i * k + j by rw [Nat.add_mul, Nat.one_mul]; omega]
    rw [flatK_set enc k hk xs i j v y hi' hj (by simpa using he)]
theorem zip_set {α β : Type} : ∀ (ms : List α) (vs : List β) (i : Nat) (v : β) (hi : i < ms.length), (ms.zip vs).set i (ms[i], v) = ms.zip (vs.set i v)
  | [], _, i, _, hi => absurd hi (Nat.not_lt_zero _)
  | _ :: _, [], _, _, _ => by simp
  | m :: ms, u :: vs, 0, v, _ => by simp
  | m :: ms, u :: vs, i + 1, v, hi => by simp [zip_set ms vs i v (by simpa using hi)]
/-- ints that lie apart from the row B -/
def IntsAp (B : Option Addr) (z : Nat) (w : World) (C : Option Addr) (zs : List Int) : Prop := Ints w C zs ∧ (zs ≠ [] → ∀ q, blk C = some q → blk B ≠ some q ∧ q ≠ z)
theorem Sl.stored {w : World} {C : Option Addr} {cs : List Value} (h : Sl w C cs) (p : Addr) (hp : cs ≠ [] → ∀ q, blk C = some q → p.block ≠ q) (v : Value) : Sl (w.setCell p v) C cs := fun hne => by
  obtain ⟨b, o, rfl, hc⟩ := h hne
  refine ⟨b, o, rfl, fun j u hu => ?_⟩
  have hn := hp hne b rfl
  rw [World.cell?_of_block (Below.heap_setCell w p v b (fun e => hn e.symm))]
  exact hc j u hu
theorem IntsAp.below {w w' : World} {z : Nat} {B C : Option Addr} {zs : List Int} (h : IntsAp B z w C zs) (hb : Below w.heap.size w w') : IntsAp B z w' C zs := ⟨h.1.below hb, h.2⟩
theorem IntsAp.stored {w : World} {z : Nat} {B C : Option Addr} {zs : List Int} (h : IntsAp B z w C zs) (p : Addr) (hp : blk B = some p.block ∨ p.block = z) (v : Value) : IntsAp B z (w.setCell p v) C zs :=
  ⟨Sl.stored h.1 p (fun hne q hq e => by
    have h2 := h.2 (by rintro rfl; exact hne rfl) q hq
    rcases hp with g | g
    · exact h2.1 (by rw [g, e])
    · exact h2.2 (by rw [← e, g])) v, h.2⟩
/-- what lies below a row is apart from it -/
theorem sl_lt {w : World} {C : Option Addr} {cs : List Value} (h : Sl w C cs) (hne : cs ≠ []) {q : Nat} (hq : blk C = some q) : q < w.heap.size := by
  obtain ⟨b, o, rfl, hc⟩ := h hne
  have hl : 0 < cs.length := List.length_pos_iff.2 hne
  have h1 := hc 0 cs[0] (List.getElem?_eq_getElem hl)
  have := World.block_lt_of_cell? w _ h1
  have e : b = q := by injection hq
  dsimp only at this
  omega
theorem ints_ne {zs : List Int} (h : zs ≠ []) : zs.map (Value.int .i64) ≠ [] := by simpa using h
theorem own_blk {w : World} {base : Nat} {e : TypeId} {size n c : Nat} {A : Option Addr} {xs : List Value} (h : w.ownsRow base e size (.slice A n c) n xs) {q : Nat} (hq : blk A = some q) : base ≤ q ∧ q < w.heap.size := h.lt q (by rw [ownBlock_blk]; exact hq)
theorem own_at {w : World} {base : Nat} {e : TypeId} {size n c : Nat} {A : Option Addr} {xs : List Value} (h : w.ownsRow base e size (.slice A n c) n xs) (hn : 0 < n) : ∃ g, A = some ⟨g, 0, none⟩ ∧ base ≤ g ∧ g < w.heap.size := by
  rcases h.2 with ⟨_, h0⟩ | ⟨g, cap, cur, hv, h1, h2, _⟩
  · omega
  · injection hv with hA _ _
    exact ⟨g, hA, h1, (own_blk h (by rw [hA]; rfl)).2⟩

theorem own_z {w : World} {base z size n c : Nat} {e : TypeId} {B : Option Addr} {cs : List Value} (h : w.ownsRow base e size (.slice B n c) n cs) (hz : z < base) (p : Addr) (hp : p.block = z) (v : Value) : (w.setCell p v).ownsRow base e size (.slice B n c) n cs :=
  ownsRow_setCell_below h (by omega) v
/-- mappings whose targets are being copied -/
structure MpsIn (w : World) (base z : Nat) (B : Option Addr) (cap : Nat) (ms : List Mp) : Prop where
  ex : ∃ vs : List Value, vs.length = ms.length ∧ w.ownsRow base 116 3 (.slice B ms.length cap) ms.length (flatK mpC (ms.zip vs)) ∧ ∀ i, (hi : i < ms.length) → (hv : i < vs.length) → ∃ C c, vs[i] = .slice C ms[i].to.length c ∧ ms[i].to.length ≤ c ∧ IntsAp B z w C ms[i].to
theorem mps_raw {w : World} {A : Option Addr} {ms : List Mp} (h : Mps w A ms) : ∃ cs, Sl w A cs ∧ cs.length = ms.length * 3 ∧ (∀ u ∈ cs, u.oneCell' = true) ∧
    ∀ base z B cap w', Below w.heap.size w w' → w.heap.size ≤ base → w.heap.size ≤ z → w'.ownsRow base 116 3 (.slice B ms.length cap) ms.length cs → MpsIn w' base z B cap ms := by
  obtain ⟨vs, h1, h2, h3⟩ := h
  have hzl : (ms.zip vs).length = ms.length := by rw [List.length_zip]; omega
  refine ⟨flatK mpC (ms.zip vs), h2, by rw [flatK_len mpC 3 (fun _ => rfl), hzl], ?_, fun base z B cap w' hb hbs hzs ho => ⟨vs, h1, ho, fun i hi hv => ?_⟩⟩
  · intro u hu
    obtain ⟨p, hp, hg⟩ := List.mem_flatMap.1 hu
    obtain ⟨j, hj, rfl⟩ := List.getElem_of_mem hp
    simp only [mpC, List.mem_cons, List.not_mem_nil, or_false] at hg
    have hj' : j < ms.length := by omega
    rcases hg with rfl | rfl | rfl
    · rfl
    · obtain ⟨C, c, e, _⟩ := h3 j hj' (by omega)
      rw [show (ms.zip vs)[j].2 = vs[j]'(by omega) from by rw [List.getElem_zip], e]
      rfl
    · rfl
  · obtain ⟨C, c, e1, e2, e3⟩ := h3 i hi hv
    refine ⟨C, c, e1, e2, e3.below hb, fun hne q hq => ?_⟩
    have h1 := sl_lt e3 (ints_ne hne) hq
    refine ⟨fun e => ?_, by omega⟩
    have := (own_blk ho e).1
    omega
section
variable {w w' : World} {base z : Nat} {B : Option Addr} {cap : Nat} {ms : List Mp}
theorem MpsIn.below (h : MpsIn w base z B cap ms) (hb : Below w.heap.size w w') : MpsIn w' base z B cap ms := by
  obtain ⟨vs, h1, h2, h3⟩ := h.ex
  refine ⟨vs, h1, own_keep h2 hb, fun i hi hv => ?_⟩
  obtain ⟨C, c, e1, e2, e3⟩ := h3 i hi hv
  exact ⟨C, c, e1, e2, e3.below hb⟩
theorem MpsIn.is (h : MpsIn w base z B cap ms) : Mps w B ms := by
  obtain ⟨vs, h1, h2, h3⟩ := h.ex
  refine ⟨vs, h1, Sl.of_own h2, fun i hi hv => ?_⟩
  obtain ⟨C, c, e1, e2, e3⟩ := h3 i hi hv
  exact ⟨C, c, e1, e2, e3.1⟩
theorem MpsIn.at (h : MpsIn w base z B cap ms) {i : Nat} (hi : i < ms.length) : ∃ g C c, B = some ⟨g, 0, none⟩ ∧ base ≤ g ∧ g < w.heap.size ∧ w.cell? ⟨g, i * 3, none⟩ = some (.int .i64 ms[i].frm) ∧ w.cell? ⟨g, i * 3 + 1, none⟩ = some (.slice C ms[i].to.length c) ∧ w.cell? ⟨g, i * 3 + 2, none⟩ = some (.string ms[i].tag) ∧ w.frozen? ⟨g, i * 3 + 1, none⟩ = false ∧ Ints w C ms[i].to := by
  obtain ⟨vs, h1, h2, h3⟩ := h.ex
  obtain ⟨g, rfl, hg1, hg2⟩ := own_at h2 (by omega)
  obtain ⟨C, c, e1, e2, e3⟩ := h3 i hi (by omega)
  have hzl : (ms.zip vs).length = ms.length := by rw [List.length_zip]; omega
  have hzi : i < (ms.zip vs).length := by omega
  have ezi : (ms.zip vs)[i] = (ms[i], vs[i]'(by omega)) := List.getElem_zip
  have gt := fun j (hj : j < 3) => (h2.cellAt (i * 3 + j) (by omega)).trans (flatK_get mpC 3 (fun _ => rfl) (ms.zip vs) i j hzi hj)
  refine ⟨g, C, c, rfl, hg1, hg2, (gt 0 (by omega)).trans (by rw [ezi]; rfl), (gt 1 (by omega)).trans (by rw [ezi, e1]; rfl), (gt 2 (by omega)).trans (by rw [ezi]; rfl), h2.frozenAt _, e3.1⟩
theorem MpsIn.put {g : Nat} (h : MpsIn w base z (some ⟨g, 0, none⟩) cap ms) {i : Nat} (hi : i < ms.length) {C : Option Addr} {c : Nat} (hc : ms[i].to.length ≤ c) (hC : Ints w C ms[i].to) (hap : ms[i].to ≠ [] → ∀ q, blk C = some q → g ≠ q ∧ q ≠ z) :
    MpsIn (w.setCell ⟨g, i * 3 + 1, none⟩ (.slice C ms[i].to.length c)) base z (some ⟨g, 0, none⟩) cap ms := by
  obtain ⟨vs, h1, h2, h3⟩ := h.ex
  have hzi : i < (ms.zip vs).length := by rw [List.length_zip]; omega
  have ezi : (ms.zip vs)[i] = (ms[i], vs[i]'(by omega)) := List.getElem_zip
  refine ⟨vs.set i (.slice C ms[i].to.length c), by simpa using h1, ?_, fun j hj hv => ?_⟩
  · have := (h2.stored (i * 3 + 1) (.slice C ms[i].to.length c)).1
    rw [flatK_set mpC 3 (fun _ => rfl) (ms.zip vs) i 1 _ (ms[i], .slice C ms[i].to.length c) hzi (by omega) (by rw [ezi]; rfl), zip_set ms vs i _ hi] at this
    exact this
  · have hIC : IntsAp (some ⟨g, 0, none⟩) z w C ms[i].to := ⟨hC, fun hne q hq => ⟨fun e => (hap hne q hq).1 (Option.some.inj (show some g = some q from e)), (hap hne q hq).2⟩⟩
    by_cases e : i = j
    · subst e
      exact ⟨C, c, by rw [List.getElem_set_self], hc, hIC.stored ⟨g, i * 3 + 1, none⟩ (.inl rfl) _⟩
    · obtain ⟨C', c', e1, e2, e3⟩ := h3 j hj (by omega)
      exact ⟨C', c', by rw [List.getElem_set_ne e, e1], e2, e3.stored ⟨g, i * 3 + 1, none⟩ (.inl rfl) _⟩
theorem MpsIn.off (h : MpsIn w base z B cap ms) (hz : z < base) (p : Addr) (hp : p.block = z) (v : Value) : MpsIn (w.setCell p v) base z B cap ms := by
  obtain ⟨vs, h1, h2, h3⟩ := h.ex
  refine ⟨vs, h1, own_z h2 hz p hp v, fun i hi hv => ?_⟩
  obtain ⟨C, c, e1, e2, e3⟩ := h3 i hi hv
  exact ⟨C, c, e1, e2, e3.stored p (.inr hp) v⟩
end

/-- entries that are being copied -/
def EltsAp (B : Option Addr) (z : Nat) (w : World) (C : Option Addr) (es : List Elt) : Prop := Elts w C es ∧ (es ≠ [] → ∀ q, blk C = some q → blk B ≠ some q ∧ q ≠ z)
theorem elts_ne {es : List Elt} (h : es ≠ []) : flatK Elt.cells es ≠ [] := by
  intro e
  have := congrArg List.length e
  rw [flatK_len Elt.cells 4 (fun _ => rfl)] at this
  have := List.length_pos_iff.2 h
  simp at *
  omega
theorem EltsAp.below {w w' : World} {z : Nat} {B C : Option Addr} {es : List Elt} (h : EltsAp B z w C es) (hb : Below w.heap.size w w') : EltsAp B z w' C es := ⟨h.1.below hb, h.2⟩
theorem EltsAp.stored {w : World} {z : Nat} {B C : Option Addr} {es : List Elt} (h : EltsAp B z w C es) (p : Addr) (hp : blk B = some p.block ∨ p.block = z) (v : Value) : EltsAp B z (w.setCell p v) C es :=
  ⟨Sl.stored h.1 p (fun hne q hq e => by
    have h2 := h.2 (by rintro rfl; exact hne rfl) q hq
    rcases hp with g | g
    · exact h2.1 (by rw [g, e])
    · exact h2.2 (by rw [← e, g])) v, h.2⟩
def enC (v : Value × Value) : List Value := [v.1, v.2]
structure EntsIn (w : World) (base z : Nat) (B : Option Addr) (cap : Nat) (xs : List Ent) : Prop where
  ex : ∃ vs : List (Value × Value), vs.length = xs.length ∧ w.ownsRow base 109 2 (.slice B xs.length cap) xs.length (flatK enC vs) ∧ ∀ i, (hi : i < xs.length) → (hv : i < vs.length) → ∃ C c E d, vs[i] = (.slice C xs[i].codes.length c, .slice E xs[i].elems.length d) ∧ IntsAp B z w C xs[i].codes ∧ EltsAp B z w E xs[i].elems
theorem ents_raw {w : World} {A : Option Addr} {xs : List Ent} (h : Ents w A xs) : ∃ cs, Sl w A cs ∧ cs.length = xs.length * 2 ∧ (∀ u ∈ cs, u.oneCell' = true) ∧
    ∀ base z B cap w', Below w.heap.size w w' → w.heap.size ≤ base → w.heap.size ≤ z → w'.ownsRow base 109 2 (.slice B xs.length cap) xs.length cs → EntsIn w' base z B cap xs := by
  obtain ⟨vs, h1, h2, h3⟩ := h
  refine ⟨flatK enC vs, h2, by rw [flatK_len enC 2 (fun _ => rfl), h1], ?_, fun base z B cap w' hb hbs hzs ho => ⟨vs, h1, ho, fun i hi hv => ?_⟩⟩
  · intro u hu
    obtain ⟨p, hp, hg⟩ := List.mem_flatMap.1 hu
    obtain ⟨j, hj, rfl⟩ := List.getElem_of_mem hp
    obtain ⟨C, c, E, d, e, _⟩ := (h3 j (by omega) hj).ex
    simp only [enC, List.mem_cons, List.not_mem_nil, or_false] at hg
    rcases hg with rfl | rfl
    · rw [e]; rfl
    · rw [e]; rfl
  · obtain ⟨C, c, E, d, e1, e2, e3⟩ := (h3 i hi hv).ex
    refine ⟨C, c, E, d, e1, ⟨e2.below hb, fun hne q hq => ⟨fun e => ?_, ?_⟩⟩, ⟨e3.below hb, fun hne q hq => ⟨fun e => ?_, ?_⟩⟩⟩
    · have := sl_lt e2 (ints_ne hne) hq
      have := (own_blk ho e).1
      omega
    · have := sl_lt e2 (ints_ne hne) hq
      omega
    · have := sl_lt e3 (elts_ne hne) hq
      have := (own_blk ho e).1
      omega
    · have := sl_lt e3 (elts_ne hne) hq
      omega
section
variable {w w' : World} {base z : Nat} {B : Option Addr} {cap : Nat} {xs : List Ent}
theorem EntsIn.below (h : EntsIn w base z B cap xs) (hb : Below w.heap.size w w') : EntsIn w' base z B cap xs := by
  obtain ⟨vs, h1, h2, h3⟩ := h.ex
  refine ⟨vs, h1, own_keep h2 hb, fun i hi hv => ?_⟩
  obtain ⟨C, c, E, d, e1, e2, e3⟩ := h3 i hi hv
  exact ⟨C, c, E, d, e1, e2.below hb, e3.below hb⟩
theorem EntsIn.is (h : EntsIn w base z B cap xs) : Ents w B xs := by
  obtain ⟨vs, h1, h2, h3⟩ := h.ex
  refine ⟨vs, h1, Sl.of_own h2, fun i hi hv => ?_⟩
  obtain ⟨C, c, E, d, e1, e2, e3⟩ := h3 i hi hv
  exact ⟨C, c, E, d, e1, e2.1, e3.1⟩
theorem EntsIn.at (h : EntsIn w base z B cap xs) {i : Nat} (hi : i < xs.length) : ∃ g C c E d, B = some ⟨g, 0, none⟩ ∧ base ≤ g ∧ g < w.heap.size ∧ w.cell? ⟨g, i * 2, none⟩ = some (.slice C xs[i].codes.length c) ∧ w.cell? ⟨g, i * 2 + 1, none⟩ = some (.slice E xs[i].elems.length d) ∧ w.frozen? ⟨g, i * 2, none⟩ = false ∧ w.frozen? ⟨g, i * 2 + 1, none⟩ = false ∧ Ints w C xs[i].codes ∧ Elts w E xs[i].elems := by
  obtain ⟨vs, h1, h2, h3⟩ := h.ex
  obtain ⟨g, rfl, hg1, hg2⟩ := own_at h2 (by omega)
  obtain ⟨C, c, E, d, e1, e2, e3⟩ := h3 i hi (by omega)
  have hzi : i < vs.length := by omega
  have gt := fun j (hj : j < 2) => (h2.cellAt (i * 2 + j) (by omega)).trans (flatK_get enC 2 (fun _ => rfl) vs i j hzi hj)
  exact ⟨g, C, c, E, d, rfl, hg1, hg2, (gt 0 (by omega)).trans (by rw [e1]; rfl), (gt 1 (by omega)).trans (by rw [e1]; rfl), h2.frozenAt _, h2.frozenAt _, e2.1, e3.1⟩
theorem EntsIn.put {g : Nat} (h : EntsIn w base z (some ⟨g, 0, none⟩) cap xs) {i : Nat} (hi : i < xs.length) {C : Option Addr} {c : Nat} {E : Option Addr} {d : Nat} (hC : Ints w C xs[i].codes) (hap : xs[i].codes ≠ [] → ∀ q, blk C = some q → g ≠ q ∧ q ≠ z) (hE : Elts w E xs[i].elems) (hape : xs[i].elems ≠ [] → ∀ q, blk E = some q → g ≠ q ∧ q ≠ z) :
    EntsIn ((w.setCell ⟨g, i * 2, none⟩ (.slice C xs[i].codes.length c)).setCell ⟨g, i * 2 + 1, none⟩ (.slice E xs[i].elems.length d)) base z (some ⟨g, 0, none⟩) cap xs := by
  obtain ⟨vs, h1, h2, h3⟩ := h.ex
  have hzi : i < vs.length := by omega
  refine ⟨(vs.set i (.slice C xs[i].codes.length c, vs[i].2)).set i (.slice C xs[i].codes.length c, .slice E xs[i].elems.length d), by simpa using h1, ?_, fun j hj hv => ?_⟩
  · have t1 := (h2.stored (i * 2 + 0) (.slice C xs[i].codes.length c)).1
    rw [flatK_set enC 2 (fun _ => rfl) vs i 0 _ (.slice C xs[i].codes.length c, vs[i].2) hzi (by omega) rfl] at t1
    have t2 := (t1.stored (i * 2 + 1) (.slice E xs[i].elems.length d)).1
    rw [flatK_set enC 2 (fun _ => rfl) (vs.set i (.slice C xs[i].codes.length c, vs[i].2)) i 1 _ (.slice C xs[i].codes.length c, .slice E xs[i].elems.length d) (by simpa using hzi) (by omega) (by rw [List.getElem_set_self]; rfl)] at t2
    exact t2
  · have hIC : IntsAp (some ⟨g, 0, none⟩) z w C xs[i].codes := ⟨hC, fun hne q hq => ⟨fun e => (hap hne q hq).1 (Option.some.inj (show some g = some q from e)), (hap hne q hq).2⟩⟩
    have hIE : EltsAp (some ⟨g, 0, none⟩) z w E xs[i].elems := ⟨hE, fun hne q hq => ⟨fun e => (hape hne q hq).1 (Option.some.inj (show some g = some q from e)), (hape hne q hq).2⟩⟩
    by_cases e : i = j
    · subst e
      exact ⟨C, c, E, d, by rw [List.getElem_set_self], (hIC.stored ⟨g, i * 2, none⟩ (.inl rfl) _).stored ⟨g, i * 2 + 1, none⟩ (.inl rfl) _, (hIE.stored ⟨g, i * 2, none⟩ (.inl rfl) _).stored ⟨g, i * 2 + 1, none⟩ (.inl rfl) _⟩
    · obtain ⟨C', c', E', d', e1, e2, e3⟩ := h3 j hj (by omega)
      exact ⟨C', c', E', d', by rw [List.getElem_set_ne e, List.getElem_set_ne e, e1], (e2.stored ⟨g, i * 2, none⟩ (.inl rfl) _).stored ⟨g, i * 2 + 1, none⟩ (.inl rfl) _, (e3.stored ⟨g, i * 2, none⟩ (.inl rfl) _).stored ⟨g, i * 2 + 1, none⟩ (.inl rfl) _⟩
theorem EntsIn.off (h : EntsIn w base z B cap xs) (hz : z < base) (p : Addr) (hp : p.block = z) (v : Value) : EntsIn (w.setCell p v) base z B cap xs := by
  obtain ⟨vs, h1, h2, h3⟩ := h.ex
  refine ⟨vs, h1, own_z h2 hz p hp v, fun i hi hv => ?_⟩
  obtain ⟨C, c, E, d, e1, e2, e3⟩ := h3 i hi hv
  exact ⟨C, c, E, d, e1, e2.stored p (.inr hp) v, e3.stored p (.inr hp) v⟩
end
end Go.Proofs.YtpfbnikbebccjaaGreatDoor
/- Maps whose size is known: made, stored into, struck from, counted. No program in sight. -/
namespace Go.Proofs.YtpfbnikbebccjaaGreatDoor
open Go.RowKit Go.Maps Go.WideMaps

/-- block b holds a map that gives f x at the key x, and has sz entries -/
def MapC {κ : Type} (P : Program) (k : TypeId) (kl : κ → Lit) (ok : κ → Prop) (w : World) (b n : Nat) (f : κ → Option Value) (sz : Nat) : Prop :=
  ∃ D : DataW Value, w.ownsMap P k elemV b n D ∧ (∀ x, ok x → Maps.has D (kl x) = (f x).isSome ∧ ∀ z, D.atKey (kl x) (.held z) = .held ((f x).getD z)) ∧ Maps.size D = sz
section
variable {κ : Type} {P : Program} {k : TypeId} {kl : κ → Lit} {ok : κ → Prop} {w w' : World} {b n sz : Nat} {f : κ → Option Value}
theorem MapC.is (h : MapC P k kl ok w b n f sz) : MapIs P k kl ok w b n f := by obtain ⟨D, h1, h2, _⟩ := h; exact ⟨D, h1, h2⟩
theorem MapC.made (P : Program) (k : TypeId) (kl : κ → Lit) (ok : κ → Prop) (w : World) : MapC P k kl ok (w.alloc (.map #[] 0)) w.heap.size 0 (fun _ => none) 0 :=
  ⟨.map [], World.ownsMap_made w P k elemV, fun _ _ => ⟨rfl, fun _ => rfl⟩, rfl⟩
theorem MapC.lt (h : MapC P k kl ok w b n f sz) : b < w.heap.size := h.is.lt
theorem MapC.kept {row : Option Nat} (h : MapC P k kl ok w b n f sz) (hg : w.grownBy w' row) (hne : some b ≠ row) : MapC P k kl ok w' b n f sz := by
  obtain ⟨D, h1, h2⟩ := h
  exact ⟨D, h1.kept hg hne, h2⟩
theorem MapC.below (h : MapC P k kl ok w b n f sz) (hb : Below w.heap.size w w') : MapC P k kl ok w' b n f sz :=
  h.kept (row := none) ⟨hb.os, hb.tape, hb.output, hb.size, fun k hk _ => hb.block k hk⟩ (by simp)
theorem MapC.put [DecidableEq κ] {t e : TypeId} (h : MapC P k kl ok w b n f sz) (K : Keyed P k) (ht : P.underlying t = some (.map k e)) (hn : n < maxLen) {key v : Value} {x : κ} (hx : ok x) (hkey : keyOf P k key = some (kl x))
    (hinj : ∀ y, ok y → kl y = kl x → y = x) :
    ∃ w', (Instr.mapUpdate t (.map (some b)) key v).run P w = .ok () w' ∧ MapC P k kl ok w' b (n + 1) (fun y => if y = x then some v else f y) (if (f x).isSome = true then sz else sz + 1) ∧ w.grownBy w' (some b) := by
  obtain ⟨D, h1, h2, h3⟩ := h
  obtain ⟨w', hrun, r1, r2⟩ := h1.update K ht hn hkey (val := v) (d := .held v) (ps := []) rfl
  refine ⟨w', hrun, ⟨_, r1, fun y hy => ?_, ?_⟩, r2⟩
  · dsimp only
    by_cases e : y = x
    · subst e
      rw [if_pos rfl]
      exact ⟨by rw [has_put_same h1.isMap (K.key hkey)]; rfl, fun z => atKey_put_same h1.isMap (K.key hkey) _ _⟩
    · rw [if_neg e]
      have hne : kl y ≠ kl x := fun e' => e (hinj y hy e')
      rw [has_put_other hne]
      exact ⟨(h2 y hy).1, fun z => (atKey_put_other hne _ _).trans ((h2 y hy).2 z)⟩
  · rw [size_put (h1.tidy K), (h2 x hx).1, h3]
theorem MapC.drop [DecidableEq κ] {t e : TypeId} (h : MapC P k kl ok w b n f sz) (K : Keyed P k) (ht : P.underlying t = some (.map k e)) {key : Value} {x : κ} (hx : ok x) (hkey : keyOf P k key = some (kl x)) (hinj : ∀ y, ok y → kl y = kl x → y = x) (ty : TypeId) :
    ∃ w', (Builtin.delete_ #[t, k] ty #[.map (some b), key]).run P w = .ok (.tuple #[]) w' ∧ MapC P k kl ok w' b n (fun y => if y = x then none else f y) (sz - if (f x).isSome = true then 1 else 0) ∧ w.grownBy w' (some b) := by
  obtain ⟨D, h1, h2, h3⟩ := h
  obtain ⟨w', hrun, r1, r2⟩ := h1.drop K ht hkey ty
  refine ⟨w', hrun, ⟨_, r1, fun y hy => ?_, ?_⟩, r2.grown⟩
  · dsimp only
    by_cases e : y = x
    · subst e
      rw [if_pos rfl]
      exact ⟨has_del_same, fun z => atKey_del_same _⟩
    · rw [if_neg e]
      have hne : kl y ≠ kl x := fun e' => e (hinj y hy e')
      rw [has_del_other hne]
      exact ⟨(h2 y hy).1, fun z => (atKey_del_other hne _).trans ((h2 y hy).2 z)⟩
  · have h4 := size_del (k := kl x) (h1.tidy K)
    rw [(h2 x hx).1, h3] at h4
    omega
theorem MapC.len {t e : TypeId} (h : MapC P k kl ok w b n f sz) (ht : P.underlying t = some (.map k e)) (ty : TypeId) : (Builtin.len_ #[t] ty #[.map (some b)]).run P w = .ok (.int .i64 sz) w := by
  obtain ⟨D, h1, _, h3⟩ := h
  rw [h1.len ht ty, h3]
end

section
variable {κ : Type} {P : Program} {w : World} {ops : Array Oper} {rest : List Oper} {o : Oper} {a : Act} {Q : Exit → Act → World → Prop} {md : Region.Mode} {S : World → Prop}
variable {k : TypeId} {kl : κ → Lit} {ok : κ → Prop} {b n sz : Nat} {f : κ → Option Value}
theorem wpList_cdel [DecidableEq κ] (hg : o.guard = none) (m x : Operand) (t : TypeId) (hop : o.op = Op.call { callee := Callee.builtin Builtin.delete, args := #[m, x], argTypes := #[t, k] }) {e : TypeId} (h : MapC P k kl ok w b n f sz) (K : Keyed P k) (ht : P.underlying t = some (.map k e))
    (hm : a.eval m = .map (some b)) {key : Value} {y : κ} (hy : a.eval x = key) (hx : ok y) (hkey : keyOf P k key = some (kl y)) (hinj : ∀ z, ok z → kl z = kl y → z = y)
    (hK : ∀ w', MapC P k kl ok w' b n (fun z => if z = y then none else f z) (sz - if (f y).isSome = true then 1 else 0) → w.grownBy w' (some b) → wpList P ops Q rest (a.put o.dst (.tuple #[])) w') : wpList P ops Q (o :: rest) a w := by
  refine wpList_plain hg fun K' hK' => ?_
  obtain ⟨w', hrun, r1, r2⟩ := h.drop K ht hx hkey hinj o.type
  unfold Oper.wp
  simp [execOp, hop, resolve, invoke, builtin, hm, hy, hrun, Result.andThen]
  exact hK' _ _ (hK w' r1 r2)
theorem anyH_cput [DecidableEq κ] {i : Nat} {oi : Oper} {fuel : Nat} {listed : Array Bool} (d : Option Tmp) (hi : ops[i]? = some oi) (hd : oi.dst = d)
    (hr : Region.ready md ops listed = [i]) (hw : Region.wanted oi (yielded ops a.tmps) = true) (m y v : Operand) (t : TypeId) (hop : oi.op = Op.mapUpdate t m y v) {e : TypeId} (h : MapC P k kl ok w b n f sz) (K : Keyed P k) (ht : P.underlying t = some (.map k e)) (hn : n < maxLen)
    (hm : a.eval m = .map (some b)) {key val : Value} {x : κ} (hy : a.eval y = key) (hv : a.eval v = val) (hx : ok x) (hkey : keyOf P k key = some (kl x)) (hinj : ∀ y, ok y → kl y = kl x → y = x)
    (hS : ∀ w', w.grownBy w' (some b) → S w')
    (hK : ∀ w', MapC P k kl ok w' b (n + 1) (fun y => if y = x then some val else f y) (if (f x).isSome = true then sz else sz + 1) → w.grownBy w' (some b) → wpAnyH P md ops Q S fuel (listed.setIfInBounds i true) (a.put d undef) w') : wpAnyH P md ops Q S (fuel + 1) listed a w := by
  subst hd
  refine anyH_do hi hr hw (fun K' hK' => ?_)
  obtain ⟨w', hrun, r1, r2⟩ := h.put K ht hn (v := val) hx hkey hinj
  unfold Oper.wp
  simp [execOp, hop, hm, hy, hv, hrun, Result.andThen]
  exact hK'.out _ _ (hS w' r2) (fun _ => hK w' r1 r2)
end
end Go.Proofs.YtpfbnikbebccjaaGreatDoor
/- Steps of a held drawn region that write: a store, an append to an owned row. -/
namespace Go.Proofs.YtpfbnikbebccjaaGreatDoor
open Go.RowKit

section
variable {P : Program} {ops : Array Oper} {Q : Exit → Act → World → Prop} {md : Region.Mode} {S : World → Prop}
/-- an operation that yields nothing and changes the world, the only one that may come up -/
theorem anyH_unit {i : Nat} {oi : Oper} {fuel : Nat} {listed : Array Bool} {a : Act} {w w' : World} (d : Option Tmp) (hi : ops[i]? = some oi) (hd : oi.dst = d)
    (hr : Region.ready md ops listed = [i]) (hw : Region.wanted oi (yielded ops a.tmps) = true) (he : (execOp a.eval oi).run P w = .ok .skip w') (hS : S w')
    (h : wpAnyH P md ops Q S fuel (listed.setIfInBounds i true) (a.put d undef) w') : wpAnyH P md ops Q S (fuel + 1) listed a w := by
  subst hd
  refine anyH_do hi hr hw (fun K hK => ?_)
  unfold Oper.wp
  rw [he]
  simp only [Oper.upon]
  exact hK.out _ _ hS (fun _ => h)
end

section
variable {P : Program} {w : World}
/-- an append to no row -/
theorem wpList_app0 {ops : Array Oper} {rest : List Oper} {o : Oper} {a : Act} {Q : Exit → Act → World → Prop} (s x : Operand) (t e : TypeId) (z : Value) (size bytes : Nat)
    (hgd : o.guard = none) (ho : o.op = .call { callee := .builtin .append, args := #[s, x], argTypes := #[t, t] }) (ht : P.underlying t = some (.slice e))
    (hinfo : (P.info? e).map (fun i => (i.zero, i.size, i.bytes)) = some (some z, size, bytes)) (hzs : z.cells.size = size) (hsz : 0 < size) (hby : 0 < bytes)
    (hs : a.eval s = .slice none 0 0)
    {A' : Option Addr} {m c' : Nat} {news : List Value} (hx : a.eval x = .slice A' m c') (hr : Sl w A' news) (hl : news.length = m * size) (h1 : ∀ u ∈ news, u.oneCell' = true)
    (hlim : m * bytes ≤ 140737488355328)
    (h : ∀ B k w', w'.ownsRow w.heap.size e size (.slice B m k) m news → m ≤ k → Below w.heap.size w w' → wpList P ops Q rest (a.put o.dst (.slice B m k)) w') : wpList P ops Q (o :: rest) a w := by
  refine wpList_app s x t e z size bytes hgd ho ht hinfo hzs hsz hby hs (World.ownsRow_nil w w.heap.size _ _) hx hr hl h1 (by rw [Nat.zero_add]; exact hlim) (Nat.le_refl _) ?_
  intro B k w' h2 h3 h4 _ _
  rw [Nat.zero_add] at *
  exact h B k w' h2 h3 h4
end
end Go.Proofs.YtpfbnikbebccjaaGreatDoor
/- The contract of the reference's Check of normalization data. Written by gen_rdcheck.py. -/
namespace Go.Proofs.YtpfbnikbebccjaaGreatDoor
open Go.RowKit Go.Maps Go.WideMaps

end Go.Proofs.YtpfbnikbebccjaaGreatDoor
/- An element put behind a text in order and moved in front of those with greater classes; the runs of a text with one element more. Plain. -/
namespace Go.Proofs.YtpfbnikbebccjaaGreatDoor.Can

section
variable {cl : Int → Int}

end

end Go.Proofs.YtpfbnikbebccjaaGreatDoor.Can

namespace Go.Proofs.YtpfbnikbebccjaaGreatDoor

end Go.Proofs.YtpfbnikbebccjaaGreatDoor
/- Composing a text: a machine over its elements, and the laws of it. Plain. -/
namespace Go.Proofs.YtpfbnikbebccjaaGreatDoor.Cps
open Go.Proofs.YtpfbnikbebccjaaGreatDoor

/-- what has been composed: ahead of the last starter, the last starter, behind it -/
structure CSt where
  pre : List Int
  st : Option Int
  bt : List Int
def CSt.out (s : CSt) : List Int := s.pre ++ (s.st.toList ++ s.bt)
def s0 : CSt := ⟨[], none, []⟩
section
variable (cl : Int → Int) (pr : Int → Int → Option Int)
def free (s : CSt) (c : Int) : Bool := match s.bt.getLast? with | none => true | some b => decide (cl b < cl c)
def put (s : CSt) (c : Int) : CSt := if cl c = 0 then ⟨s.out, some c, []⟩ else ⟨s.pre, s.st, s.bt ++ [c]⟩
def join (s : CSt) (c : Int) : Option Int := match s.st with | some L => if free cl s c = true then pr L c else none | none => none
def step (s : CSt) (c : Int) : CSt := match join cl pr s c with | some p => ⟨s.pre, some p, s.bt⟩ | none => put cl s c
def run (s : CSt) (t : List Int) : CSt := t.foldl (step cl pr) s
def text (t : List Int) : List Int := (run cl pr s0 t).out
end
section
variable {cl : Int → Int} {pr : Int → Int → Option Int}
theorem put_out (s : CSt) (c : Int) : (put cl s c).out = s.out ++ [c] := by
  unfold put
  split <;> simp [CSt.out]
theorem join_some {s : CSt} {c p : Int} (h : join cl pr s c = some p) : ∃ L, s.st = some L ∧ free cl s c = true ∧ pr L c = some p := by
  unfold join at h
  split at h
  · next L hL =>
    split at h
    · next hf => exact ⟨L, hL, hf, h⟩
    · cases h
  · cases h
theorem step_some {s : CSt} {c p : Int} (h : join cl pr s c = some p) : step cl pr s c = ⟨s.pre, some p, s.bt⟩ := by unfold step; rw [h]
theorem step_none {s : CSt} {c : Int} (h : join cl pr s c = none) : step cl pr s c = put cl s c := by unfold step; rw [h]
end

/-! decomposing undoes composing -/
section
variable {cl : Int → Int} {pr : Int → Int → Option Int} {D : Int → List Int}
theorem inv_move (c : Int) (q : List Int) (hc : cl c ≠ 0) (h : ∀ y ∈ q, cl y ≠ 0 ∧ cl y ≠ cl c) : Can.Inv cl (c :: q) (q ++ [c]) := by
  induction q with
  | nil => exact Can.Inv.refl _
  | cons y r ih =>
    have hy := h y (by simp)
    exact (Can.Inv.swap r hc hy.1 (fun e => hy.2 e.symm)).trans ((ih (fun z hz => h z (by simp [hz]))).cons y)
/-- what holds of the machine when a text in order has been composed -/
structure Und (cl : Int → Int) (D : Int → List Int) (u : List Int) (s : CSt) : Prop where
  inv : Can.Inv cl (s.out.flatMap D) u
  bts : ∀ b ∈ s.bt, D b = [b] ∧ cl b ≠ 0
  pw : s.bt.Pairwise (fun x y => cl x ≤ cl y)
  top : ∀ b ∈ s.bt, ∃ x, u.getLast? = some x ∧ cl b ≤ cl x
theorem flat_self {l : List Int} (h : ∀ b ∈ l, D b = [b]) : l.flatMap D = l := by
  induction l with
  | nil => rfl
  | cons b l ih => rw [List.flatMap_cons, h b (by simp), ih (fun x hx => h x (by simp [hx]))]; rfl
theorem last_le {l : List Int} (hp : l.Pairwise (fun x y => cl x ≤ cl y)) {b : Int} (hb : l.getLast? = some b) : ∀ x ∈ l, cl x ≤ cl b := by
  obtain ⟨r, rfl⟩ : ∃ r, l = r ++ [b] := by
    cases hl : l with
    | nil => rw [hl] at hb; cases hb
    | cons x y => 
      rw [hl] at hb
      refine ⟨(x :: y).dropLast, ?_⟩
      have h1 : (x :: y).getLast (by simp) = b := by rw [List.getLast?_eq_some_getLast (by simp)] at hb; injection hb
      rw [← h1, List.dropLast_concat_getLast]
  intro x hx
  rcases List.mem_append.1 hx with hx | hx
  · exact (List.pairwise_append.1 hp).2.2 x hx b (by simp)
  · simp at hx; subst hx; omega
theorem Und.step (hcl : ∀ x, 0 ≤ cl x) (hD : ∀ L c p, pr L c = some p → D p = D L ++ D c) {u : List Int} {s : CSt} {c : Int} (h : Und cl D u s) (hc : D c = [c]) (hok : cl c ≠ 0 → ∀ x, u.getLast? = some x → cl x ≤ cl c) : Und cl D (u ++ [c]) (step cl pr s c) := by
  have hlast : (u ++ [c]).getLast? = some c := by simp
  have hlt : cl c ≠ 0 → ∀ b ∈ s.bt, cl b ≤ cl c := fun h0 b hb => by
    obtain ⟨x, h1, h2⟩ := h.top b hb
    have := hok h0 x h1
    omega
  cases hj : join cl pr s c with
  | none =>
    rw [step_none hj]
    have hi : Can.Inv cl ((put cl s c).out.flatMap D) (u ++ [c]) := by
      rw [put_out, List.flatMap_append]
      have : [c].flatMap D = [c] := by simp [hc]
      rw [this]
      exact h.inv.append (Can.Inv.refl _)
    by_cases h0 : cl c = 0
    · have e : (put cl s c).bt = [] := by unfold put; rw [if_pos h0]
      exact ⟨hi, by rw [e]; simp, by rw [e]; simp, by rw [e]; simp⟩
    · have e : (put cl s c).bt = s.bt ++ [c] := by unfold put; rw [if_neg h0]
      refine ⟨hi, ?_, ?_, ?_⟩ <;> rw [e]
      · intro b hb
        rcases List.mem_append.1 hb with hb | hb
        · exact h.bts b hb
        · simp at hb; subst hb; exact ⟨hc, h0⟩
      · rw [List.pairwise_append]
        exact ⟨h.pw, by simp, fun a ha b hb => by simp at hb; subst hb; exact hlt h0 a ha⟩
      · intro b hb
        refine ⟨c, hlast, ?_⟩
        rcases List.mem_append.1 hb with hb | hb
        · exact hlt h0 b hb
        · simp at hb; subst hb; omega
  | some p =>
    obtain ⟨L, h1, h2, h3⟩ := join_some hj
    rw [step_some hj]
    have hDp := hD L c p h3
    rw [hc] at hDp
    have hall : ∀ b ∈ s.bt, cl b < cl c := by
      intro b hb
      unfold free at h2
      cases hl : s.bt.getLast? with
      | none => rw [List.getLast?_eq_none_iff] at hl; rw [hl] at hb; cases hb
      | some y =>
        rw [hl] at h2
        have h4 : cl y < cl c := by simpa using h2
        have := last_le h.pw hl b hb
        omega
    refine ⟨?_, h.bts, h.pw, fun b hb => ⟨c, hlast, by have := hall b hb; omega⟩⟩
    have e1 : (CSt.out ⟨s.pre, some p, s.bt⟩).flatMap D = s.pre.flatMap D ++ (D L ++ (c :: s.bt)) := by
      simp [CSt.out, hDp, flat_self (fun b hb => (h.bts b hb).1)]
    have e2 : s.out.flatMap D ++ [c] = s.pre.flatMap D ++ (D L ++ (s.bt ++ [c])) := by
      simp [CSt.out, h1, flat_self (fun b hb => (h.bts b hb).1)]
    rw [e1]
    have hmv : Can.Inv cl (c :: s.bt) (s.bt ++ [c]) := by
      by_cases hb : s.bt = []
      · rw [hb]; exact Can.Inv.refl _
      · obtain ⟨y, hy⟩ := List.exists_mem_of_ne_nil _ hb
        have h5 := hall y hy
        have h6 := hcl y
        exact inv_move c _ (by omega) (fun z hz => ⟨(h.bts z hz).2, by have := hall z hz; omega⟩)
    refine ((Can.Inv.refl (cl := cl) (s.pre.flatMap D)).append ((Can.Inv.refl (cl := cl) (D L)).append hmv)).trans ?_
    rw [← e2]
    exact h.inv.append (Can.Inv.refl _)
end

end Go.Proofs.YtpfbnikbebccjaaGreatDoor.Cps
/- Composites of data of normalization: pairs, the list of pairs, the set of second elements. Plain. -/
namespace Go.Proofs.YtpfbnikbebccjaaGreatDoor
open Go.RowKit

/-- data that counts -/
def usN (x : Nrm) : Nrm := if nErr x = 0 then x else ⟨[], [], []⟩
/-- what holds of data that counts -/
structure NOk (x : Nrm) : Prop where
  st : StF x.dec
  hg : NoHg x.dec
  co : CodesOk x.dec
  en : endB x.dec = true
  lo : longB x.dec = false
  kd : ∀ m ∈ x.dec, m.tag.size = 0 → m.to.length = 1 ∨ m.to.length = 2
theorem usN_ok (x : Nrm) : NOk (usN x) := by
  unfold usN
  split
  · next h =>
    obtain ⟨c, h1, h2⟩ := nErr_ck6 h
    refine ⟨StF_of c.t, NoHg_of c.d, mapErr_codes c.m, h1, h2, fun m hm ht => ?_⟩
    have := List.any_eq_false.1 c.k m hm
    unfold kindB at this
    simp [ht] at this
    omega
  · exact ⟨fun i j hi => by simp at hi, fun i hi => by simp at hi, fun i hi => by simp at hi, rfl, rfl, fun m hm => by simp at hm⟩
section
variable {x : Nrm}
end

/-! the list of pairs -/
def befT (x y : Int × Int × Int) : Prop := x.1 < y.1 ∨ (x.1 = y.1 ∧ x.2.1 < y.2.1)
theorem befT_irrefl (x : Int × Int × Int) : ¬ befT x x := by rintro (h | ⟨_, h⟩) <;> omega
theorem befT_trans {x y z : Int × Int × Int} (h : befT x y) (g : befT y z) : befT x z := by
  unfold befT at *
  omega
theorem asc_unique : ∀ {L M : List (Int × Int × Int)}, L.Pairwise befT → M.Pairwise befT → (∀ t, t ∈ L ↔ t ∈ M) → L = M
  | [], [], _, _, _ => rfl
  | [], y :: M, _, _, h => by have := (h y).2 (by simp); cases this
  | x :: L, [], _, _, h => by have := (h x).1 (by simp); cases this
  | x :: L, y :: M, hL, hM, h => by
    rw [List.pairwise_cons] at hL hM
    have hxy : x = y := by
      rcases List.mem_cons.1 ((h x).1 (by simp)) with e | e
      · exact e
      · rcases List.mem_cons.1 ((h y).2 (by simp)) with e' | e'
        · exact e'.symm
        · exact absurd (befT_trans (hM.1 x e) (hL.1 y e')) (befT_irrefl _)
    subst hxy
    rw [asc_unique hL.2 hM.2 (fun t => ?_)]
    have := h t
    simp only [List.mem_cons] at this
    constructor
    · intro ht
      rcases this.1 (.inr ht) with e | e
      · subst e; exact absurd (hL.1 t ht) (befT_irrefl _)
      · exact e
    · intro ht
      rcases this.2 (.inr ht) with e | e
      · subst e; exact absurd (hM.1 t ht) (befT_irrefl _)
      · exact e
end Go.Proofs.YtpfbnikbebccjaaGreatDoor
/- Contracts of usable, of the reference's Data and Counted: the data where it is valid, else empty data. -/
namespace Go.Proofs.YtpfbnikbebccjaaGreatDoor
open Go.RowKit Go.Maps Go.WideMaps

/-- data of normalization is returned -/
def RetNrm (x : Nrm) (w : World) (e : Ending) (w' : World) : Prop := ∃ A0 k0 A1 k1 A2 k2, e = .returned (.agg #[.slice A0 x.cls.length k0, .slice A1 x.dec.length k1, .slice A2 x.exc.length k2]) ∧ NrmAt w' A0 x.cls.length A1 x.dec.length A2 x.exc.length x ∧ Below w.heap.size w w'
theorem results_nrm {fn : Func} (hr : fn.results = #[.cell 2 28]) (tmps : Array Value) (w : World) {b : Nat} {v0 v1 v2 : Value} (ha : tmps.getD 2 undef = .pointer (some ⟨b, 0, none⟩))
    (c0 : w.cell? ⟨b, 0, none⟩ = some v0) (c1 : w.cell? ⟨b, 1, none⟩ = some v1) (c2 : w.cell? ⟨b, 2, none⟩ = some v2) :
    (results fn tmps).run Tryz.prog w = .ok (.agg #[v0, v1, v2]) w := by
  unfold results
  rw [hr]
  simp only [ha, List.mapM_toArray, List.mapM_cons, List.mapM_nil, asAddr]
  go_simp
theorem NrmAt.empty (w : World) : NrmAt w none 0 none 0 none 0 ⟨[], [], []⟩ := ⟨Sl.nil _ _, Mps.nil _ _, Sl.nil _ _, rfl, rfl, rfl⟩
theorem usN_bad {x : Nrm} (h : ¬ nErr x = 0) : usN x = ⟨[], [], []⟩ := if_neg h
theorem usN_good {x : Nrm} (h : nErr x = 0) : usN x = x := if_pos h
/-- what usable returns -/
def usV (x : Nrm) (A0 : Option Addr) (k0 : Nat) (A1 : Option Addr) (k1 : Nat) (A2 : Option Addr) (k2 : Nat) : Value := if nErr x = 0 then .agg #[.slice A0 x.cls.length k0, .slice A1 x.dec.length k1, .slice A2 x.exc.length k2] else .agg #[.slice none 0 0, .slice none 0 0, .slice none 0 0]
theorem usV_bad {x : Nrm} (A0 : Option Addr) (k0 : Nat) (A1 : Option Addr) (k1 : Nat) (A2 : Option Addr) (k2 : Nat) (h : ¬ nErr x = 0) : usV x A0 k0 A1 k1 A2 k2 = .agg #[.slice none 0 0, .slice none 0 0, .slice none 0 0] := if_neg h
theorem usV_good {x : Nrm} (A0 : Option Addr) (k0 : Nat) (A1 : Option Addr) (k1 : Nat) (A2 : Option Addr) (k2 : Nat) (h : nErr x = 0) : usV x A0 k0 A1 k1 A2 k2 = .agg #[.slice A0 x.cls.length k0, .slice A1 x.dec.length k1, .slice A2 x.exc.length k2] := if_pos h
theorem usV_at {w : World} {A0 : Option Addr} {n0 : Nat} {A1 : Option Addr} {n1 : Nat} {A2 : Option Addr} {n2 : Nat} {x : Nrm} (h : NrmAt w A0 n0 A1 n1 A2 n2 x) (k0 k1 k2 : Nat) : ∃ B0 c0 B1 c1 B2 c2, usV x A0 k0 A1 k1 A2 k2 = .agg #[.slice B0 (usN x).cls.length c0, .slice B1 (usN x).dec.length c1, .slice B2 (usN x).exc.length c2] ∧
    ∀ W, Below w.heap.size w W → NrmAt W B0 (usN x).cls.length B1 (usN x).dec.length B2 (usN x).exc.length (usN x) := by
  by_cases hc : nErr x = 0
  · rw [usN_good hc, usV_good _ _ _ _ _ _ hc]
    exact ⟨_, _, _, _, _, _, rfl, fun W hb => ⟨h.s0.below hb, h.s1.below hb, h.s2.below hb, rfl, rfl, rfl⟩⟩
  · rw [usN_bad hc, usV_bad _ _ _ _ _ _ hc]
    exact ⟨none, 0, none, 0, none, 0, rfl, fun W _ => NrmAt.empty W⟩
theorem NrmSz.us {x : Nrm} (h : NrmSz x) : NrmSz (usN x) := by
  unfold usN
  split
  · exact h
  · exact ⟨by simp, ⟨by simp, fun i hi => by simp at hi⟩, by simp⟩

end Go.Proofs.YtpfbnikbebccjaaGreatDoor
/- The contract of the reference's Sort: the text in order. -/
namespace Go.Proofs.YtpfbnikbebccjaaGreatDoor
open Go.RowKit

theorem RetOwnI.hg {zs : List Int} {w w' : World} {e : Ending} (h : RetOwnI zs w e w') : RetHg zs w e w' := by
  obtain ⟨A, c, he, ho, hb⟩ := h
  refine ⟨A, c, he, ?_, Sl.of_own ho, hb⟩
  obtain ⟨_, _, hv, hc⟩ := own_form ho
  injection hv with _ _ hv
  subst hv
  exact hc
end Go.Proofs.YtpfbnikbebccjaaGreatDoor
/- Contracts of the reference's full and Text of decomposing. Written by gen_reftext2.py. -/
namespace Go.Proofs.YtpfbnikbebccjaaGreatDoor
open Go.RowKit Go.Maps Go.WideMaps

/-- the full decomposition of a text -/
def flM (x : Nrm) (compat : Bool) (t : List Int) : List Int := t.flatMap (dcM x.dec compat)
theorem flM_len {x : Nrm} (h : NOk x) (compat : Bool) (t : List Int) : (flM x compat t).length ≤ 64 * t.length := by
  unfold flM
  induction t with
  | nil => simp
  | cons c t ih => have := dcM_len h.st h.hg h.en h.lo compat c; rw [List.flatMap_cons, List.length_append, List.length_cons]; omega

/-! plain -/
theorem onM_codes {ms : List Mp} (hc : CodesOk ms) {compat : Bool} {c : Int} {to : List Int} (h : onM ms compat c = some to) : ∀ e ∈ to, iok e := by
  intro e he
  unfold onM at h
  split at h
  · next h4 =>
    injection h with h
    subst h
    exact iok_code ((decomp_kids h4).2 e he).1
  · cases hf : fndM ms compat c with
    | none => rw [hf] at h; cases h
    | some m =>
      rw [hf] at h
      obtain ⟨hm, _⟩ := fndM_at hf
      simp only [Option.map_some, Option.some.injEq] at h
      rw [toM_at hm] at h
      subst h
      exact iok_code ((hc m hm).2.2 e he)
theorem full_iok {ms : List Mp} (hc : CodesOk ms) {compat : Bool} {c : Int} {l : List Int} (h : Full (onM ms compat) c l) : iok c → ∀ e ∈ l, iok e := by
  induction h with
  | leaf h => intro h1 e he; simp at he; subst he; exact h1
  | @node c to vs h1 h2 _ ih =>
    intro _ e he
    obtain ⟨v, hv, he⟩ := List.mem_flatten.1 he
    obtain ⟨i, hi, rfl⟩ := List.getElem_of_mem hv
    exact ih i (by omega) hi (onM_codes hc h1 _ (List.getElem_mem (by omega))) e he
/-- what a decomposed text in order is -/
theorem fl_facts {x : Nrm} (h : NOk x) (compat : Bool) {t : List Int} (ht : ∀ c ∈ t, iok c) : (∀ c ∈ Can.srt (clz x.cls) (flM x compat t), iok c ∧ dcM x.dec compat c = [c]) ∧ Can.Ok (clz x.cls) (Can.srt (clz x.cls) (flM x compat t)) := by
  refine ⟨fun c hc => ?_, Can.srt_ok _⟩
  have hm := (Can.srt_perm (flM x compat t)).mem_iff.1 hc
  unfold flM at hm
  obtain ⟨e, he, hce⟩ := List.mem_flatMap.1 hm
  exact ⟨full_iok h.co (dcM_full h.st h.hg h.en compat e) (ht e he) c hce, dcM_elem h.st h.hg h.en compat hce⟩
end Go.Proofs.YtpfbnikbebccjaaGreatDoor
