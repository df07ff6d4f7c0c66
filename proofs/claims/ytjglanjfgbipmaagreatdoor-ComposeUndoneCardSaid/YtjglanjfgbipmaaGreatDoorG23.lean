/- Texts that are merged into one file: SortOwn, LaySort3, CpPairs. -/
import Derived.Test.YtjglanjfgbipmaaGreatDoorG01
import Derived.Test.YtjglanjfgbipmaaGreatDoorG03
import Derived.Test.YtjglanjfgbipmaaGreatDoorG22
import Derived.Shelf.SlSortCmp.NoneTotal
import Derived.Sort.OwnSortedInts
import Derived.Shelf.SlSortCmp.WholeK
import Derived.Test.YtjglanjfgbipmaaGreatDoorProg
/- slices.SortFunc over a row that the call owns, whatever its length, under a total order. No program in sight. -/
namespace Go.Proofs.YtjglanjfgbipmaaGreatDoor
open Go.RowKit Go.Shelf

/-- nothing that was there has turned; draws, and blocks laid behind -/
def Lays (w w' : World) : Prop := ∃ q os, w' = Go.Sort.grow (w.drewN q) os
section
variable {a b c : World}
theorem Lays.refl (a : World) : Lays a a := ⟨0, #[], by simp [Go.Sort.grow]; rfl⟩
theorem Lays.alloc (h : Lays a b) (o : Obj) : Lays a (b.alloc o) := by
  obtain ⟨q, os, rfl⟩ := h
  exact ⟨q, os ++ #[o], by rw [Go.Sort.alloc_eq_grow, Go.Sort.grow_grow]⟩
theorem Lays.drewN (h : Lays a b) (n : Nat) : Lays a (b.drewN n) := by
  obtain ⟨q, os, rfl⟩ := h
  exact ⟨q + n, os, by
    have : (Go.Sort.grow (a.drewN q) os).drewN n = Go.Sort.grow ((a.drewN q).drewN n) os := rfl
    rw [this, World.drewN_drewN]⟩
theorem Lays.drew (h : Lays a b) : Lays a b.drew := h.drewN 1
theorem Lays.trans (h : Lays a b) (k : Lays b c) : Lays a c := by
  obtain ⟨q, os, rfl⟩ := k
  obtain ⟨q', os', e⟩ := h.drewN q
  exact ⟨q', os' ++ os, by rw [e, Go.Sort.grow_grow]⟩
theorem Lays.qt (h : Qt a b) : Lays a b := by obtain ⟨q, rfl⟩ := h; exact (Lays.refl a).drewN q
end

section
variable {α : Type} [Inhabited α] {enc : α → List Value} {k : Nat}
omit [Inhabited α] in
theorem flat_len (hk : ∀ x, (enc x).length = k) (l : List α) : (l.flatMap enc).length = l.length * k := by
  induction l with
  | nil => simp
  | cons x l ih => rw [List.flatMap_cons, List.length_append, ih, hk, List.length_cons, Nat.add_mul, Nat.one_mul, Nat.add_comm]
theorem flat_get (hk : ∀ x, (enc x).length = k) (k0 : 0 < k) : ∀ (l : List α) (t : Nat), t < l.length * k → (l.flatMap enc)[t]? = some ((enc l[t / k]!)[t % k]!)
  | [], t, h => by simp at h
  | x :: l, t, h => by
    rw [List.flatMap_cons]
    by_cases ht : t < k
    · rw [List.getElem?_append_left (by rw [hk]; exact ht), Nat.div_eq_of_lt ht, Nat.mod_eq_of_lt ht]
      have : t < (enc x).length := by rw [hk]; exact ht
      simp [this]
    · have e1 : t / k = (t - k) / k + 1 := by
        have : t = (t - k) + k := by omega
        rw [this, Nat.add_div_right _ k0]
        simp
      have e2 : t % k = (t - k) % k := by
        have : t = (t - k) + k := by omega
        rw [this, Nat.add_mod_right]
        simp
      rw [List.getElem?_append_right (by rw [hk]; omega), hk, flat_get hk k0 l (t - k) (by rw [List.length_cons, Nat.add_mul, Nat.one_mul] at h; omega), e1, e2]
      simp
theorem kit_flat (hk : ∀ x, (enc x).length = k) (k0 : 0 < k) (d : Array α) : Go.Sort.flatK enc k d = (d.toList.flatMap enc).toArray := by
  have hs : (Go.Sort.flatK enc k d).size = d.size * k := by simp [Go.Sort.flatK]
  apply Array.ext_getElem?
  intro t
  by_cases ht : t < d.size * k
  · have h1 := flat_get hk k0 d.toList t (by simpa using ht)
    have h3 : (d.toList.flatMap enc).toArray[t]? = some ((enc d.toList[t / k]!)[t % k]!) := by rw [List.getElem?_toArray]; exact h1
    rw [h3]
    have h2 := Go.Sort.get_flatK enc k d t ht
    rw [getElem!_pos _ t (by rw [hs]; exact ht)] at h2
    have hq : d.toList[t / k]! = d[t / k]! := by
      have hlt : t / k < d.size := Nat.div_lt_of_lt_mul (by rw [Nat.mul_comm]; exact ht)
      rw [getElem!_pos d.toList _ (by simpa using hlt), getElem!_pos d _ hlt]
      simp
    rw [Array.getElem?_eq_getElem (by rw [hs]; exact ht), h2, hq]
  · rw [Array.getElem?_eq_none (by omega), Array.getElem?_eq_none (by rw [List.size_toArray, flat_len hk]; simp; omega)]
theorem take_putV (cur : Array Value) (vs : List Value) (h : vs.length ≤ cur.size) : (Go.Sort.putCells id 0 vs.toArray cur).toList.take vs.length = vs := by
  apply List.ext_getElem?
  intro j
  by_cases hj : j < vs.length
  · rw [List.getElem?_take_of_lt hj, Array.getElem?_toList]
    simp [Go.Sort.putCells, hj, show j < cur.size by omega]
  · rw [List.getElem?_take_eq_none (by omega), List.getElem?_eq_none (by omega)]

variable {P : Program} {ρ : Ren}
/-- sorting an owned row -/
theorem sort_own (L : SlLaysF0.n6 P ρ) (aE : ∀ w, (isAgg (ρ.t 24)).run P w = .ok true w) (zE : ∀ w, (Go.sizeOf (ρ.t 24)).run P w = .ok k w) (hk : ∀ x, (enc x).length = k) (k0 : 0 < k) (h1 : ∀ x, ∀ v ∈ enc x, v.oneCell' = true) (cf : α → α → Int) (hO : Go.Sort.SWO (ltOf cf))
    (hT : ∀ x y, (ltOf cf) x y = false → (ltOf cf) y x = false → x = y) (gc : Nat) (cb : Array Value) (eg : ∀ args w, (callFunc gc args).run P w = .ok (.enter gc args) w)
    (hcmp : ∀ W x y, Calls P gc (#[.agg (enc x).toArray, .agg (enc y).toArray] ++ cb) W fun e w' => e = .returned (.int .i64 (cf x y)) ∧ Lays W w') (base : Nat) (e : TypeId) (A : Option Addr) (c : Nat) (d : List α) (w : World)
    (hown : w.ownsRow base e k (.slice A d.length c) d.length (d.flatMap enc)) (hsz : d.length < 4611686018427387904) :
    Calls P (ρ.f 6) #[.slice A d.length c, .func (.func gc) #[] cb] w fun e' w' => e' = .returned (.tuple #[]) ∧ w'.ownsRow base e k (.slice A d.length c) d.length ((d.mergeSort fun x y => !(ltOf cf) y x).flatMap enc) ∧ w.grownBy w' (Value.ownBlock (.slice A d.length c)) := by
  by_cases hd : d = []
  · subst hd
    refine (AnyF.slices_SortFunc_none L A c _ w).mono ?_
    rintro e' w' ⟨rfl, rfl⟩
    exact ⟨rfl, by simpa using hown, ⟨rfl, rfl, rfl, Nat.le_refl _, fun _ _ _ => rfl⟩⟩
  · rcases hown.2 with ⟨hv, h0⟩ | ⟨g, cap, cur, hv, hb, hg, hn, hm, hc, hx⟩
    · exact absurd (List.eq_nil_of_length_eq_zero h0) hd
    · injection hv with hA _ hcc
      subst hA; subst hcc
      have hlt : g < w.heap.size := (Array.getElem?_eq_some_iff.1 hg).1
      have hH : Go.Sort.HoldsK enc k w g 0 d.toArray := by
        unfold Go.Sort.HoldsK
        rw [kit_flat hk k0]
        intro j hj
        have hj' : j < d.length * k := by simpa [flat_len hk] using hj
        refine ⟨?_, by simp [World.frozen?, hg]⟩
        have h2 : (cur.toList.take (d.length * k))[j]? = (d.flatMap enc)[j]? := by rw [hx]
        rw [List.getElem?_take_of_lt hj'] at h2
        have hjl : j < (d.flatMap enc).length := by rw [flat_len hk]; exact hj'
        simp only [World.cell?, hg, Nat.zero_add]
        simp only [Option.isSome_none, Bool.false_eq_true, if_false]
        rw [← Array.getElem?_toList, h2, List.getElem?_eq_getElem hjl]
        have h3 : (d.toArray.toList.flatMap enc).toArray[j]! = (d.flatMap enc)[j] := by
          rw [getElem!_pos _ j (by simpa using hjl)]
          rfl
        rw [h3]
        rfl
      have hC : CmpLays P gc cb enc k cf g 0 d.toArray.size w := fun m os dk _ x y => hcmp _ x y
      refine (AnyQ.slices_SortFunc_total L k aE zE enc hk h1 cf hO gc cb g 0 c d.toArray w eg hC hH hlt (by simpa using hsz) hT).mono ?_
      rintro e' w' ⟨rfl, n, os, rfl⟩
      have hlen : (d.mergeSort fun x y => !(ltOf cf) y x).length = d.length := List.length_mergeSort _
      have hheap : (sortWorldK enc k w g 0 n ((d.mergeSort fun x y => !(ltOf cf) y x)).toArray os).heap[g]? = some (.cells (Go.Sort.putCells id 0 ((d.mergeSort fun x y => !(ltOf cf) y x).flatMap enc).toArray cur) e (0, 0)) := by
        unfold sortWorldK Go.Sort.putRowK
        rw [kit_flat hk k0, Go.Sort.heap_grow_old _ _ (by simpa using hlt)]
        simp [Go.Sort.putRow, Go.Sort.mapBlock, Go.Sort.ahead, Array.getElem?_modify, hg, Go.Sort.onCells]
      refine ⟨rfl, ⟨by rw [flat_len hk, hlen], .inr ⟨g, c, _, rfl, hb, by simpa using hheap, hn, hm, by simp [Go.Sort.putCells, hc], ?_⟩⟩, ?_⟩
      · have h3 := take_putV cur ((d.mergeSort fun x y => !(ltOf cf) y x).flatMap enc) (by rw [flat_len hk, hlen, hc]; exact Nat.mul_le_mul_right _ hn)
        rw [flat_len hk, hlen] at h3
        exact h3
      · refine ⟨rfl, rfl, rfl, by simp [sortWorldK, Go.Sort.putRowK], fun i hi hne => ?_⟩
        unfold sortWorldK Go.Sort.putRowK
        rw [Go.Sort.heap_grow_old _ _ (by simpa using hi)]
        have : g ≠ i := fun e => hne (by rw [e]; rfl)
        simp [Go.Sort.putRow, Go.Sort.mapBlock, Go.Sort.ahead, Array.getElem?_modify, this]
end
end Go.Proofs.YtjglanjfgbipmaaGreatDoor
/- The laying of laySort3 at this program (its numbers by name). Written by gen_lay.py. -/
namespace Go.Proofs.YtjglanjfgbipmaaGreatDoor
open Go.Shelf Go.RowKit

def laySort3_ren : Ren := ⟨fun | 6 => 34 | 15 => 55 | 14 => 54 | 28 => 85 | 29 => 86 | 20 => 77 | 21 => 78 | 22 => 79 | 23 => 80 | 24 => 81 | 25 => 82 | 26 => 83 | 27 => 84 | 46 => 104 | 47 => 105 | 48 => 106 | 49 => 107 | 50 => 108 | 57 => 128 | n => n, fun | 22 => 34 | 24 => 36 | 25 => 61 | 3 => 3 | 39 => 74 | 0 => 0 | 53 => 102 | 55 => 104 | 4 => 4 | 46 => 96 | 45 => 95 | 50 => 31 | 5 => 5 | 9 => 9 | 66 => 126 | 70 => 130 | 76 => 146 | 77 => 147 | n => n, fun n => n⟩
set_option maxRecDepth 100000 in
theorem laySort3 : SlLaysF0.n6 Tryz.prog laySort3_ren := {
  mixed := by kernel_rfl,
  f6 := ⟨Tryz.f34.name, by decide, Tryz.func34.trans (congrArg some (by kernel_rfl))⟩,
  f14 := ⟨Tryz.f54.name, by decide, Tryz.func54.trans (congrArg some (by kernel_rfl))⟩,
  f15 := Tryz.func55.trans (congrArg some (by kernel_rfl)),
  f20 := ⟨Tryz.f77.name, by decide, Tryz.func77.trans (congrArg some (by kernel_rfl))⟩,
  f21 := ⟨Tryz.f78.name, by decide, Tryz.func78.trans (congrArg some (by kernel_rfl))⟩,
  f22 := ⟨Tryz.f79.name, by decide, Tryz.func79.trans (congrArg some (by kernel_rfl))⟩,
  f23 := ⟨Tryz.f80.name, by decide, Tryz.func80.trans (congrArg some (by kernel_rfl))⟩,
  f24 := ⟨Tryz.f81.name, by decide, Tryz.func81.trans (congrArg some (by kernel_rfl))⟩,
  f25 := ⟨Tryz.f82.name, by decide, Tryz.func82.trans (congrArg some (by kernel_rfl))⟩,
  f26 := ⟨Tryz.f83.name, by decide, Tryz.func83.trans (congrArg some (by kernel_rfl))⟩,
  f27 := ⟨Tryz.f84.name, by decide, Tryz.func84.trans (congrArg some (by kernel_rfl))⟩,
  f28 := Tryz.func85.trans (congrArg some (by kernel_rfl)),
  f29 := Tryz.func86.trans (congrArg some (by kernel_rfl)),
  f46 := ⟨Tryz.f104.name, by decide, Tryz.func104.trans (congrArg some (by kernel_rfl))⟩,
  f47 := Tryz.func105.trans (congrArg some (by kernel_rfl)),
  f48 := Tryz.func106.trans (congrArg some (by kernel_rfl)),
  f49 := ⟨Tryz.f107.name, by decide, Tryz.func107.trans (congrArg some (by kernel_rfl))⟩,
  f50 := ⟨Tryz.f108.name, by decide, Tryz.func108.trans (congrArg some (by kernel_rfl))⟩,
  f57 := ⟨Tryz.f128.name, by decide, Tryz.func128.trans (congrArg some (by kernel_rfl))⟩,
  t0 := Tryz.underlying0,
  a0 := Tryz.isAgg0,
  z0 := Tryz.sizeOf0,
  v0 := Tryz.zeroValue0,
  t3 := Tryz.underlying3,
  a3 := Tryz.isAgg3,
  z3 := Tryz.sizeOf3,
  v3 := Tryz.zeroValue3,
  t4 := Tryz.underlying4,
  a4 := Tryz.isAgg4,
  z4 := Tryz.sizeOf4,
  v4 := Tryz.zeroValue4,
  t5 := Tryz.underlying5,
  a5 := Tryz.isAgg5,
  z5 := Tryz.sizeOf5,
  v5 := Tryz.zeroValue5,
  t9 := Tryz.underlying9,
  a9 := Tryz.isAgg9,
  z9 := Tryz.sizeOf9,
  v9 := Tryz.zeroValue9,
  t22 := Tryz.underlying34,
  a22 := Tryz.isAgg34,
  z22 := Tryz.sizeOf34,
  v22 := Tryz.zeroValue34,
  t25 := Tryz.underlying61,
  a25 := Tryz.isAgg61,
  z25 := Tryz.sizeOf61,
  v25 := Tryz.zeroValue61,
  t39 := Tryz.underlying74,
  a39 := Tryz.isAgg74,
  z39 := Tryz.sizeOf74,
  v39 := Tryz.zeroValue74,
  t45 := Tryz.underlying95,
  a45 := Tryz.isAgg95,
  z45 := Tryz.sizeOf95,
  v45 := Tryz.zeroValue95,
  t46 := Tryz.underlying96,
  a46 := Tryz.isAgg96,
  z46 := Tryz.sizeOf96,
  v46 := Tryz.zeroValue96,
  t50 := Tryz.underlying31,
  a50 := Tryz.isAgg31,
  z50 := Tryz.sizeOf31,
  v50 := Tryz.zeroValue31,
  t53 := Tryz.underlying102,
  a53 := Tryz.isAgg102,
  z53 := Tryz.sizeOf102,
  v53 := Tryz.zeroValue102,
  t55 := Tryz.underlying104,
  a55 := Tryz.isAgg104,
  z55 := Tryz.sizeOf104,
  v55 := Tryz.zeroValue104,
  t66 := Tryz.underlying126,
  a66 := Tryz.isAgg126,
  z66 := Tryz.sizeOf126,
  v66 := Tryz.zeroValue126,
  t70 := Tryz.underlying130,
  a70 := Tryz.isAgg130,
  z70 := Tryz.sizeOf130,
  v70 := Tryz.zeroValue130,
  t76 := Tryz.underlying146,
  a76 := Tryz.isAgg146,
  z76 := Tryz.sizeOf146,
  v76 := Tryz.zeroValue146,
  t77 := Tryz.underlying147,
  a77 := Tryz.isAgg147,
  z77 := Tryz.sizeOf147,
  v77 := Tryz.zeroValue147 }
end Go.Proofs.YtjglanjfgbipmaaGreatDoor
/- Contracts of compose.Pairs and Primary. Written by gen_cppairs.py. -/
namespace Go.Proofs.YtjglanjfgbipmaaGreatDoor
open Go.RowKit Go.Maps Go.WideMaps Go.Shelf

def encT (t : Int × Int × Int) : List Value := [.int .i64 t.1, .int .i64 t.2.1, .int .i64 t.2.2]
def cmpT (x y : Int × Int × Int) : Int := cmpL [x.1, x.2.1, x.2.2] [y.1, y.2.1, y.2.2]
theorem cmpT_lt (x y : Int × Int × Int) : cmpT x y < 0 ↔ (x.1 < y.1 ∨ (x.1 = y.1 ∧ (x.2.1 < y.2.1 ∨ (x.2.1 = y.2.1 ∧ x.2.2 < y.2.2)))) := by
  unfold cmpT
  simp only [cmpL]
  (repeat' split) <;> omega
theorem ltT (x y : Int × Int × Int) : ltOf cmpT x y = true ↔ (x.1 < y.1 ∨ (x.1 = y.1 ∧ (x.2.1 < y.2.1 ∨ (x.2.1 = y.2.1 ∧ x.2.2 < y.2.2)))) := by unfold ltOf; rw [decide_eq_true_eq, cmpT_lt]
theorem ltT_no (x y : Int × Int × Int) : ltOf cmpT x y = false ↔ ¬ (x.1 < y.1 ∨ (x.1 = y.1 ∧ (x.2.1 < y.2.1 ∨ (x.2.1 = y.2.1 ∧ x.2.2 < y.2.2)))) := by rw [← ltT, Bool.not_eq_true]
theorem swoT : Go.Sort.SWO (ltOf cmpT) where
  irrefl x := by rw [ltT_no]; omega
  trans x y z h1 h2 := by rw [ltT] at *; omega
  ntrans x y z h1 h2 := by rw [ltT_no] at *; omega
theorem totT : ∀ x y, ltOf cmpT x y = false → ltOf cmpT y x = false → x = y := by
  rintro ⟨a, b, c⟩ ⟨a', b', c'⟩ h1 h2
  rw [ltT_no] at h1 h2
  dsimp only at h1 h2
  have e1 : a = a' := by omega
  have e2 : b = b' := by omega
  have e3 : c = c' := by omega
  rw [e1, e2, e3]

set_option maxRecDepth 100000 in
set_option maxHeartbeats 1600000 in
theorem cmpT_any (x y : Int × Int × Int) (w : World) : Calls Tryz.prog 35 #[.agg (encT x).toArray, .agg (encT y).toArray] w fun e w' => e = .returned (.int .i64 (cmpT x y)) ∧ Lays w w' := by
  unfold encT
  have CR := Lib.hid (fun W (h1 : Ints W (some ⟨w.heap.size, 0, none⟩) [x.1, x.2.1, x.2.2]) (h2 : Ints W (some ⟨w.heap.size + 1, 0, none⟩) [y.1, y.2.1, y.2.2]) => cpCompare_any (some ⟨w.heap.size, 0, none⟩) (some ⟨w.heap.size + 1, 0, none⟩) 3 3 3 3 [x.1, x.2.1, x.2.2] [y.1, y.2.1, y.2.2] W h1 h2 rfl rfl (by omega) (by omega))
  have CC := Lib.hid (fun W (h1 : Ints W (some ⟨w.heap.size, 0, none⟩) [x.1, x.2.1, x.2.2]) (h2 : Ints W (some ⟨w.heap.size + 1, 0, none⟩) [y.1, y.2.1, y.2.2]) (h3 : Lays w W) => (CR.out W h1 h2).mono (R' := fun e W' => e = .returned (.int .i64 (cmpL [x.1, x.2.1, x.2.2] [y.1, y.2.1, y.2.2])) ∧ Ints W' (some ⟨w.heap.size, 0, none⟩) [x.1, x.2.1, x.2.2] ∧ Ints W' (some ⟨w.heap.size + 1, 0, none⟩) [y.1, y.2.1, y.2.2] ∧ Lays w W') (fun e W' hh => by
    obtain ⟨he, q, rfl⟩ := hh
    exact ⟨he, h1, h2, h3.drewN q⟩))
  have HC := Lib.hid (show cmpT x y = cmpL [x.1, x.2.1, x.2.2] [y.1, y.2.1, y.2.2] from rfl)
  have hI1 : Ints ((w.alloc (.cells #[.int .i64 x.1, .int .i64 x.2.1, .int .i64 x.2.2] 36)).alloc (.cells #[.int .i64 y.1, .int .i64 y.2.1, .int .i64 y.2.2] 36)) (some ⟨w.heap.size, 0, none⟩) [x.1, x.2.1, x.2.2] := Sl.alloc (Ints_new w [x.1, x.2.1, x.2.2] 36 rfl) _
  have hI2 : Ints ((w.alloc (.cells #[.int .i64 x.1, .int .i64 x.2.1, .int .i64 x.2.2] 36)).alloc (.cells #[.int .i64 y.1, .int .i64 y.2.1, .int .i64 y.2.2] 36)) (some ⟨w.heap.size + 1, 0, none⟩) [y.1, y.2.1, y.2.2] := Ints_new _ [y.1, y.2.1, y.2.2] 36 (by simp)
  have hL0 : Lays w ((w.alloc (.cells #[.int .i64 x.1, .int .i64 x.2.1, .int .i64 x.2.2] 36)).alloc (.cells #[.int .i64 y.1, .int .i64 y.2.1, .int .i64 y.2.2] 36)) := ((Lays.refl w).alloc _).alloc _
  have W0E : ∃ W0, ((w.alloc (.cells #[.int .i64 x.1, .int .i64 x.2.1, .int .i64 x.2.2] 36)).alloc (.cells #[.int .i64 y.1, .int .i64 y.2.1, .int .i64 y.2.2] 36)) = W0 := ⟨_, rfl⟩
  clear CR
  generalize cmpL [x.1, x.2.1, x.2.2] [y.1, y.2.1, y.2.2] = r at *
  generalize cmpT x y = r' at *
  obtain rfl := HC.out
  go_enter Tryz.func35, Tryz.ntmps35
  go_wp2_with fail
  obtain ⟨W0, hW0⟩ := W0E
  rw [hW0] at hI1 hI2 hL0 ⊢
  clear hW0
  have SH := Lib.hid (And.intro hI1 (And.intro hI2 hL0.drew))
  refine wp_region_held_drew (S := fun W' => Ints W' (some ⟨w.heap.size, 0, none⟩) [x.1, x.2.1, x.2.2] ∧ Ints W' (some ⟨w.heap.size + 1, 0, none⟩) [y.1, y.2.1, y.2.2] ∧ Lays w W') (by kernel_rfl) SH.out (fun hHeld => ?_)
  refine anyH_take (i := 0) (v := ?_) (some 5) rfl rfl (by kernel_rfl) (by kernel_rfl) (by kernel_rfl) (fun _ _ _ h => h) (by rfl) (by assumption) ?_ ?_
  rotate_left
  · intro w hSw; (try dsimp only at hSw); go_split_ands; go_simp; try (with_reducible rfl)
  try simp only [Act.put, List.setIfInBounds_toArray, List.set_cons_zero, List.set_cons_succ]
  refine anyH_take (i := 1) (v := ?_) (some 6) rfl rfl (by kernel_rfl) (by kernel_rfl) (by kernel_rfl) (fun _ _ _ h => h) (by rfl) (by assumption) ?_ ?_
  rotate_left
  · intro w hSw; (try dsimp only at hSw); go_split_ands; go_simp; try (with_reducible rfl)
  try simp only [Act.put, List.setIfInBounds_toArray, List.set_cons_zero, List.set_cons_succ]
  refine anyH_call (i := 2) (some 7) rfl rfl (by kernel_rfl) (by rfl) (by go_simp) (CC.out _ hHeld.1 hHeld.2.1 hHeld.2.2) (fun W1 hS6 => ?_)
  clear hHeld
  have hHeld := hS6
  clear hS6
  try simp only [Act.put, List.setIfInBounds_toArray, List.set_cons_zero, List.set_cons_succ]
  refine anyH_take (i := 3) (v := ?_) (some 4) rfl rfl (by kernel_rfl) (by kernel_rfl) (by kernel_rfl) (fun _ _ _ h => h) (by rfl) (by assumption) ?_ ?_
  rotate_left
  · intro w hSw; (try dsimp only at hSw); go_split_ands; go_simp; try (with_reducible rfl)
  try simp only [Act.put, List.setIfInBounds_toArray, List.set_cons_zero, List.set_cons_succ]
  refine wpAnyH_done (by kernel_rfl) ?_ _
  have hl := hHeld.2.2
  clear hHeld
  go_wp2_with fail
  go_ret
  exact ⟨rfl, hl⟩
end Go.Proofs.YtjglanjfgbipmaaGreatDoor
