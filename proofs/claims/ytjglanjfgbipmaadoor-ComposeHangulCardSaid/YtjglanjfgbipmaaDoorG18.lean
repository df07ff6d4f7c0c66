/- Texts that are merged into one file: CpPair, SortOwn, LaySort3, CpPairs, RefCps, CpPairsB, CpPrim, ORefSort. -/
import Derived.Test.YtjglanjfgbipmaaDoorG01
import Derived.Test.YtjglanjfgbipmaaDoorG03
import Derived.Test.YtjglanjfgbipmaaDoorG04
import Derived.Test.YtjglanjfgbipmaaDoorG06
import Derived.Test.YtjglanjfgbipmaaDoorG09
import Derived.Test.YtjglanjfgbipmaaDoorG11
import Derived.Test.YtjglanjfgbipmaaDoorG17
import Derived.Shelf.SlSortCmp.NoneTotal
import Derived.Sort.OwnSortedInts
import Derived.Shelf.SlSortCmp.WholeK
import Derived.Test.YtjglanjfgbipmaaDoorProg
/- Contracts of compose.join and Pair. -/
namespace Go.Proofs.YtjglanjfgbipmaaDoor
open Go.RowKit Go.Maps Go.WideMaps

/-- a number or none is returned -/
def RetOpt (o : Option Int) (w : World) (e : Ending) (w' : World) : Prop := e = .returned (.tuple #[.int .i64 (o.getD 0), .bool o.isSome]) ∧ Below w.heap.size w w'
def prJ (F : Int × Int → Option Int) (a b : Int) : Option Int := if (Hg.comp a b).2 = true then some (Hg.comp a b).1 else F (a, b)
theorem prJ_pc (x : Nrm) : prJ (pcN x) = prN x := by
  funext a b
  rw [prN_pc]
  rfl
theorem pcV_get (F : Int × Int → Option Int) (p : Int × Int) : (pcV F p).getD (.int .i64 0) = .int .i64 ((F p).getD 0) := by unfold pcV; cases F p <;> rfl
theorem pcV_some (F : Int × Int → Option Int) (p : Int × Int) : (pcV F p).isSome = (F p).isSome := by unfold pcV; cases F p <;> rfl

set_option maxRecDepth 100000 in
set_option maxHeartbeats 1600000 in
theorem join_any (b n : Nat) (F : Int × Int → Option Int) (u v : Int) (w : World) (hM : MapP w b n F) (hp : pok (u, v)) :
    Calls Tryd.prog 16 #[.map (some b), .int .i64 u, .int .i64 v] w (RetOpt (prJ F u v) w) := by
  have CO := Lib.hid (Compose_any u v w)
  have HM := Lib.hid hM
  have HJ := Lib.hid (show prJ F u v = if (Hg.comp u v).2 = true then some (Hg.comp u v).1 else F (u, v) from rfl)
  generalize prJ F u v = r at *
  generalize Hg.comp u v = cm at *
  obtain ⟨cv, cf⟩ := cm
  dsimp only at *
  clear hM
  go_enter Tryd.func16, Tryd.ntmps16
  go_wp2_with fail
  with_reducible refine CO.out.mono ?_
  rintro e W1 ⟨rfl, hb1⟩
  cases cf with
  | true =>
    obtain rfl := HJ.out
    go_wp2_with fail
    go_ret2
    exact ⟨rfl, hb1⟩
  | false =>
    have HR := Lib.hid (show r = F (u, v) from HJ.out)
    have HM1 := Lib.hid (HM.out.below hb1)
    have G1 := Lib.hid (pcV_get F (u, v))
    have G2 := Lib.hid (pcV_some F (u, v))
    generalize F (u, v) = fr at *
    go_wp2_with (at_lookup; refine wpList_lookOk rfl _ _ 49 rfl HM1.out law_pair Tryd.underlying49 (zero_intP _) rfl rfl hp (pkey_some hp) ?_; rw [G1.out, G2.out])
    go_ret2
    rw [HR.out]
    exact ⟨rfl, hb1⟩

set_option maxRecDepth 100000 in
set_option maxHeartbeats 1600000 in
theorem cpPair_any (A0 : Option Addr) (n0 k0 : Nat) (A1 : Option Addr) (n1 k1 : Nat) (A2 : Option Addr) (n2 k2 : Nat) (x : Nrm) (u v : Int) (w : World) (hN : NrmAt w A0 n0 A1 n1 A2 n2 x) (hz : NrmSz x) (hL : Laid w) (hp : pok (u, v)) :
    Calls Tryd.prog 8 #[.agg #[.slice A0 n0 k0, .slice A1 n1 k1, .slice A2 n2 k2], .int .i64 u, .int .i64 v] w (RetOpt (prN (usN x) u v) w) := by
  have hB : Below w.heap.size w (w.alloc (.cells #[.slice A0 n0 k0, .slice A1 n1 k1, .slice A2 n2 k2] 35)) := (Below.refl _ _).alloc (Nat.le_refl _) _
  have UC := Lib.hid (cpUsable_any A0 n0 k0 A1 n1 k1 A2 n2 k2 x _ (hN.below hB) hz (hL.below hB))
  have HB := Lib.hid hB
  have CC := Lib.hid (fun B0 c0 B1 c1 B2 c2 W (hN : NrmAt W B0 (usN x).cls.length B1 (usN x).dec.length B2 (usN x).exc.length (usN x)) (hb : Below w.heap.size w W) => composites_any B0 _ c0 B1 _ c1 B2 _ c2 (usN x) W hN hz.us (usN_ok x) (hL.below hb))
  have HJ := Lib.hid (prJ_pc (usN x))
  clear hN hz hL hB
  generalize usN x = y at *
  go_enter Tryd.func8, Tryd.ntmps8
  go_wp2_with fail
  with_reducible refine UC.out.mono ?_
  rintro e W1 ⟨B0, c0, B1, c1, B2, c2, rfl, hN1, hb1⟩
  have hb := HB.out.trans (hb1.mono HB.out.size)
  have C2 := Lib.hid (CC.out B0 c0 B1 c1 B2 c2 W1 hN1 hb)
  clear hN1 hb1 CC UC
  go_wp2_with fail
  with_reducible refine C2.out.mono ?_
  rintro e W2 ⟨b, rfl, hM, _, hb2⟩
  have hb3 := hb.trans (hb2.mono hb.size)
  have JC := Lib.hid (join_any b _ (pcN y) u v W2 hM hp)
  rw [HJ.out] at JC
  clear hM hb2 C2
  generalize prN y u v = r at *
  go_wp2_with fail
  with_reducible refine JC.out.mono ?_
  rintro e W3 ⟨rfl, hb4⟩
  have hb5 := hb3.trans (hb4.mono hb3.size)
  go_wp2_with fail
  go_ret2
  exact ⟨rfl, hb5⟩
end Go.Proofs.YtjglanjfgbipmaaDoor
/- slices.SortFunc over a row that the call owns, whatever its length, under a total order. No program in sight. -/
namespace Go.Proofs.YtjglanjfgbipmaaDoor
open Go.RowKit Go.Shelf

/-- nothing that was there has turned; draws, and blocks laid behind -/
def Lays (w w' : World) : Prop := ∃ q os, w' = Go.Sort.grow (w.drewN q) os
section
variable {a b c : World}
theorem Lays.refl (a : World) : Lays a a := ⟨0, #[], by simp [Go.Sort.grow]; rfl⟩
theorem Lays.alloc (h : Lays a b) (o : Obj) : Lays a (b.alloc o) := by
  obtain ⟨q, os, rfl⟩ := h
  exact ⟨q, os ++ #[o], by rw [Go.Sort.alloc_eq_grow, Go.Sort.grow_grow]⟩
theorem Lays.drewN (h : Lays a b) (n : Nat) : Lays a (b.drewN n) := by
  obtain ⟨q, os, rfl⟩ := h
  exact ⟨q + n, os, by
    have : (Go.Sort.grow (a.drewN q) os).drewN n = Go.Sort.grow ((a.drewN q).drewN n) os := rfl
    rw [this, World.drewN_drewN]⟩
theorem Lays.drew (h : Lays a b) : Lays a b.drew := h.drewN 1
theorem Lays.trans (h : Lays a b) (k : Lays b c) : Lays a c := by
  obtain ⟨q, os, rfl⟩ := k
  obtain ⟨q', os', e⟩ := h.drewN q
  exact ⟨q', os' ++ os, by rw [e, Go.Sort.grow_grow]⟩
theorem Lays.qt (h : Qt a b) : Lays a b := by obtain ⟨q, rfl⟩ := h; exact (Lays.refl a).drewN q
end

section
variable {α : Type} [Inhabited α] {enc : α → List Value} {k : Nat}
omit [Inhabited α] in
theorem flat_len (hk : ∀ x, (enc x).length = k) (l : List α) : (l.flatMap enc).length = l.length * k := by
  induction l with
  | nil => simp
  | cons x l ih => rw [List.flatMap_cons, List.length_append, ih, hk, List.length_cons, Nat.add_mul, Nat.one_mul, Nat.add_comm]
theorem flat_get (hk : ∀ x, (enc x).length = k) (k0 : 0 < k) : ∀ (l : List α) (t : Nat), t < l.length * k → (l.flatMap enc)[t]? = some ((enc l[t / k]!)[t % k]!)
  | [], t, h => by simp at h
  | x :: l, t, h => by
    rw [List.flatMap_cons]
    by_cases ht : t < k
    · rw [List.getElem?_append_left (by rw [hk]; exact ht), Nat.div_eq_of_lt ht, Nat.mod_eq_of_lt ht]
      have : t < (enc x).length := by rw [hk]; exact ht
      simp [this]
    · have e1 : t / k = (t - k) / k + 1 := by
        have : t = (t - k) + k := by omega
        rw [this, Nat.add_div_right _ k0]
        simp
      have e2 : t % k = (t - k) % k := by
        have : t = (t - k) + k := by omega
        rw [this, Nat.add_mod_right]
        simp
      rw [List.getElem?_append_right (by rw [hk]; omega), hk, flat_get hk k0 l (t - k) (by rw [List.length_cons, Nat.add_mul, Nat.one_mul] at h; omega), e1, e2]
      simp
theorem kit_flat (hk : ∀ x, (enc x).length = k) (k0 : 0 < k) (d : Array α) : Go.Sort.flatK enc k d = (d.toList.flatMap enc).toArray := by
  have hs : (Go.Sort.flatK enc k d).size = d.size * k := by simp [Go.Sort.flatK]
  apply Array.ext_getElem?
  intro t
  by_cases ht : t < d.size * k
  · have h1 := flat_get hk k0 d.toList t (by simpa using ht)
    have h3 : (d.toList.flatMap enc).toArray[t]? = some ((enc d.toList[t / k]!)[t % k]!) := by rw [List.getElem?_toArray]; exact h1
    rw [h3]
    have h2 := Go.Sort.get_flatK enc k d t ht
    rw [getElem!_pos _ t (by rw [hs]; exact ht)] at h2
    have hq : d.toList[t / k]! = d[t / k]! := by
      have hlt : t / k < d.size := Nat.div_lt_of_lt_mul (by rw [Nat.mul_comm]; exact ht)
      rw [getElem!_pos d.toList _ (by simpa using hlt), getElem!_pos d _ hlt]
      simp
    rw [Array.getElem?_eq_getElem (by rw [hs]; exact ht), h2, hq]
  · rw [Array.getElem?_eq_none (by omega), Array.getElem?_eq_none (by rw [List.size_toArray, flat_len hk]; simp; omega)]
theorem take_putV (cur : Array Value) (vs : List Value) (h : vs.length ≤ cur.size) : (Go.Sort.putCells id 0 vs.toArray cur).toList.take vs.length = vs := by
  apply List.ext_getElem?
  intro j
  by_cases hj : j < vs.length
  · rw [List.getElem?_take_of_lt hj, Array.getElem?_toList]
    simp [Go.Sort.putCells, hj, show j < cur.size by omega]
  · rw [List.getElem?_take_eq_none (by omega), List.getElem?_eq_none (by omega)]

variable {P : Program} {ρ : Ren}
/-- sorting an owned row -/
theorem sort_own (L : SlLaysF0.n6 P ρ) (aE : ∀ w, (isAgg (ρ.t 24)).run P w = .ok true w) (zE : ∀ w, (Go.sizeOf (ρ.t 24)).run P w = .ok k w) (hk : ∀ x, (enc x).length = k) (k0 : 0 < k) (h1 : ∀ x, ∀ v ∈ enc x, v.oneCell' = true) (cf : α → α → Int) (hO : Go.Sort.SWO (ltOf cf))
    (hT : ∀ x y, (ltOf cf) x y = false → (ltOf cf) y x = false → x = y) (gc : Nat) (cb : Array Value) (eg : ∀ args w, (callFunc gc args).run P w = .ok (.enter gc args) w)
    (hcmp : ∀ W x y, Calls P gc (#[.agg (enc x).toArray, .agg (enc y).toArray] ++ cb) W fun e w' => e = .returned (.int .i64 (cf x y)) ∧ Lays W w') (base : Nat) (e : TypeId) (A : Option Addr) (c : Nat) (d : List α) (w : World)
    (hown : w.ownsRow base e k (.slice A d.length c) d.length (d.flatMap enc)) (hsz : d.length < 4611686018427387904) :
    Calls P (ρ.f 6) #[.slice A d.length c, .func (.func gc) #[] cb] w fun e' w' => e' = .returned (.tuple #[]) ∧ w'.ownsRow base e k (.slice A d.length c) d.length ((d.mergeSort fun x y => !(ltOf cf) y x).flatMap enc) ∧ w.grownBy w' (Value.ownBlock (.slice A d.length c)) := by
  by_cases hd : d = []
  · subst hd
    refine (AnyF.slices_SortFunc_none L A c _ w).mono ?_
    rintro e' w' ⟨rfl, rfl⟩
    exact ⟨rfl, by simpa using hown, ⟨rfl, rfl, rfl, Nat.le_refl _, fun _ _ _ => rfl⟩⟩
  · rcases hown.2 with ⟨hv, h0⟩ | ⟨g, cap, cur, hv, hb, hg, hn, hm, hc, hx⟩
    · exact absurd (List.eq_nil_of_length_eq_zero h0) hd
    · injection hv with hA _ hcc
      subst hA; subst hcc
      have hlt : g < w.heap.size := (Array.getElem?_eq_some_iff.1 hg).1
      have hH : Go.Sort.HoldsK enc k w g 0 d.toArray := by
        unfold Go.Sort.HoldsK
        rw [kit_flat hk k0]
        intro j hj
        have hj' : j < d.length * k := by simpa [flat_len hk] using hj
        refine ⟨?_, by simp [World.frozen?, hg]⟩
        have h2 : (cur.toList.take (d.length * k))[j]? = (d.flatMap enc)[j]? := by rw [hx]
        rw [List.getElem?_take_of_lt hj'] at h2
        have hjl : j < (d.flatMap enc).length := by rw [flat_len hk]; exact hj'
        simp only [World.cell?, hg, Nat.zero_add]
        simp only [Option.isSome_none, Bool.false_eq_true, if_false]
        rw [← Array.getElem?_toList, h2, List.getElem?_eq_getElem hjl]
        have h3 : (d.toArray.toList.flatMap enc).toArray[j]! = (d.flatMap enc)[j] := by
          rw [getElem!_pos _ j (by simpa using hjl)]
          rfl
        rw [h3]
        rfl
      have hC : CmpLays P gc cb enc k cf g 0 d.toArray.size w := fun m os dk _ x y => hcmp _ x y
      refine (AnyQ.slices_SortFunc_total L k aE zE enc hk h1 cf hO gc cb g 0 c d.toArray w eg hC hH hlt (by simpa using hsz) hT).mono ?_
      rintro e' w' ⟨rfl, n, os, rfl⟩
      have hlen : (d.mergeSort fun x y => !(ltOf cf) y x).length = d.length := List.length_mergeSort _
      have hheap : (sortWorldK enc k w g 0 n ((d.mergeSort fun x y => !(ltOf cf) y x)).toArray os).heap[g]? = some (.cells (Go.Sort.putCells id 0 ((d.mergeSort fun x y => !(ltOf cf) y x).flatMap enc).toArray cur) e (0, 0)) := by
        unfold sortWorldK Go.Sort.putRowK
        rw [kit_flat hk k0, Go.Sort.heap_grow_old _ _ (by simpa using hlt)]
        simp [Go.Sort.putRow, Go.Sort.mapBlock, Go.Sort.ahead, Array.getElem?_modify, hg, Go.Sort.onCells]
      refine ⟨rfl, ⟨by rw [flat_len hk, hlen], .inr ⟨g, c, _, rfl, hb, by simpa using hheap, hn, hm, by simp [Go.Sort.putCells, hc], ?_⟩⟩, ?_⟩
      · have h3 := take_putV cur ((d.mergeSort fun x y => !(ltOf cf) y x).flatMap enc) (by rw [flat_len hk, hlen, hc]; exact Nat.mul_le_mul_right _ hn)
        rw [flat_len hk, hlen] at h3
        exact h3
      · refine ⟨rfl, rfl, rfl, by simp [sortWorldK, Go.Sort.putRowK], fun i hi hne => ?_⟩
        unfold sortWorldK Go.Sort.putRowK
        rw [Go.Sort.heap_grow_old _ _ (by simpa using hi)]
        have : g ≠ i := fun e => hne (by rw [e]; rfl)
        simp [Go.Sort.putRow, Go.Sort.mapBlock, Go.Sort.ahead, Array.getElem?_modify, this]
end
end Go.Proofs.YtjglanjfgbipmaaDoor
/- The laying of laySort3 at this program (its numbers by name). Written by gen_lay.py. -/
namespace Go.Proofs.YtjglanjfgbipmaaDoor
open Go.Shelf Go.RowKit

def laySort3_ren : Ren := ⟨fun | 6 => 18 | 15 => 28 | 14 => 27 | 28 => 46 | 29 => 47 | 20 => 38 | 21 => 39 | 22 => 40 | 23 => 41 | 24 => 42 | 25 => 43 | 26 => 44 | 27 => 45 | 46 => 57 | 47 => 58 | 48 => 59 | 49 => 60 | 50 => 61 | 57 => 72 | n => n, fun | 22 => 44 | 24 => 54 | 25 => 56 | 3 => 3 | 39 => 65 | 0 => 0 | 53 => 86 | 55 => 88 | 4 => 4 | 46 => 80 | 45 => 79 | 50 => 41 | 5 => 5 | 9 => 9 | 66 => 103 | 70 => 107 | 76 => 118 | 77 => 119 | n => n, fun n => n⟩
set_option maxRecDepth 100000 in
theorem laySort3 : SlLaysF0.n6 Tryd.prog laySort3_ren := {
  mixed := by kernel_rfl,
  f6 := ⟨Tryd.f18.name, by decide, Tryd.func18.trans (congrArg some (by kernel_rfl))⟩,
  f14 := ⟨Tryd.f27.name, by decide, Tryd.func27.trans (congrArg some (by kernel_rfl))⟩,
  f15 := Tryd.func28.trans (congrArg some (by kernel_rfl)),
  f20 := ⟨Tryd.f38.name, by decide, Tryd.func38.trans (congrArg some (by kernel_rfl))⟩,
  f21 := ⟨Tryd.f39.name, by decide, Tryd.func39.trans (congrArg some (by kernel_rfl))⟩,
  f22 := ⟨Tryd.f40.name, by decide, Tryd.func40.trans (congrArg some (by kernel_rfl))⟩,
  f23 := ⟨Tryd.f41.name, by decide, Tryd.func41.trans (congrArg some (by kernel_rfl))⟩,
  f24 := ⟨Tryd.f42.name, by decide, Tryd.func42.trans (congrArg some (by kernel_rfl))⟩,
  f25 := ⟨Tryd.f43.name, by decide, Tryd.func43.trans (congrArg some (by kernel_rfl))⟩,
  f26 := ⟨Tryd.f44.name, by decide, Tryd.func44.trans (congrArg some (by kernel_rfl))⟩,
  f27 := ⟨Tryd.f45.name, by decide, Tryd.func45.trans (congrArg some (by kernel_rfl))⟩,
  f28 := Tryd.func46.trans (congrArg some (by kernel_rfl)),
  f29 := Tryd.func47.trans (congrArg some (by kernel_rfl)),
  f46 := ⟨Tryd.f57.name, by decide, Tryd.func57.trans (congrArg some (by kernel_rfl))⟩,
  f47 := Tryd.func58.trans (congrArg some (by kernel_rfl)),
  f48 := Tryd.func59.trans (congrArg some (by kernel_rfl)),
  f49 := ⟨Tryd.f60.name, by decide, Tryd.func60.trans (congrArg some (by kernel_rfl))⟩,
  f50 := ⟨Tryd.f61.name, by decide, Tryd.func61.trans (congrArg some (by kernel_rfl))⟩,
  f57 := ⟨Tryd.f72.name, by decide, Tryd.func72.trans (congrArg some (by kernel_rfl))⟩,
  t0 := Tryd.underlying0,
  a0 := Tryd.isAgg0,
  z0 := Tryd.sizeOf0,
  v0 := Tryd.zeroValue0,
  t3 := Tryd.underlying3,
  a3 := Tryd.isAgg3,
  z3 := Tryd.sizeOf3,
  v3 := Tryd.zeroValue3,
  t4 := Tryd.underlying4,
  a4 := Tryd.isAgg4,
  z4 := Tryd.sizeOf4,
  v4 := Tryd.zeroValue4,
  t5 := Tryd.underlying5,
  a5 := Tryd.isAgg5,
  z5 := Tryd.sizeOf5,
  v5 := Tryd.zeroValue5,
  t9 := Tryd.underlying9,
  a9 := Tryd.isAgg9,
  z9 := Tryd.sizeOf9,
  v9 := Tryd.zeroValue9,
  t22 := Tryd.underlying44,
  a22 := Tryd.isAgg44,
  z22 := Tryd.sizeOf44,
  v22 := Tryd.zeroValue44,
  t25 := Tryd.underlying56,
  a25 := Tryd.isAgg56,
  z25 := Tryd.sizeOf56,
  v25 := Tryd.zeroValue56,
  t39 := Tryd.underlying65,
  a39 := Tryd.isAgg65,
  z39 := Tryd.sizeOf65,
  v39 := Tryd.zeroValue65,
  t45 := Tryd.underlying79,
  a45 := Tryd.isAgg79,
  z45 := Tryd.sizeOf79,
  v45 := Tryd.zeroValue79,
  t46 := Tryd.underlying80,
  a46 := Tryd.isAgg80,
  z46 := Tryd.sizeOf80,
  v46 := Tryd.zeroValue80,
  t50 := Tryd.underlying41,
  a50 := Tryd.isAgg41,
  z50 := Tryd.sizeOf41,
  v50 := Tryd.zeroValue41,
  t53 := Tryd.underlying86,
  a53 := Tryd.isAgg86,
  z53 := Tryd.sizeOf86,
  v53 := Tryd.zeroValue86,
  t55 := Tryd.underlying88,
  a55 := Tryd.isAgg88,
  z55 := Tryd.sizeOf88,
  v55 := Tryd.zeroValue88,
  t66 := Tryd.underlying103,
  a66 := Tryd.isAgg103,
  z66 := Tryd.sizeOf103,
  v66 := Tryd.zeroValue103,
  t70 := Tryd.underlying107,
  a70 := Tryd.isAgg107,
  z70 := Tryd.sizeOf107,
  v70 := Tryd.zeroValue107,
  t76 := Tryd.underlying118,
  a76 := Tryd.isAgg118,
  z76 := Tryd.sizeOf118,
  v76 := Tryd.zeroValue118,
  t77 := Tryd.underlying119,
  a77 := Tryd.isAgg119,
  z77 := Tryd.sizeOf119,
  v77 := Tryd.zeroValue119 }
end Go.Proofs.YtjglanjfgbipmaaDoor
/- Contracts of compose.Pairs and Primary. Written by gen_cppairs.py. -/
namespace Go.Proofs.YtjglanjfgbipmaaDoor
open Go.RowKit Go.Maps Go.WideMaps Go.Shelf

def encT (t : Int × Int × Int) : List Value := [.int .i64 t.1, .int .i64 t.2.1, .int .i64 t.2.2]
def cmpT (x y : Int × Int × Int) : Int := cmpL [x.1, x.2.1, x.2.2] [y.1, y.2.1, y.2.2]
theorem cmpT_lt (x y : Int × Int × Int) : cmpT x y < 0 ↔ (x.1 < y.1 ∨ (x.1 = y.1 ∧ (x.2.1 < y.2.1 ∨ (x.2.1 = y.2.1 ∧ x.2.2 < y.2.2)))) := by
  unfold cmpT
  simp only [cmpL]
  (repeat' split) <;> omega
theorem ltT (x y : Int × Int × Int) : ltOf cmpT x y = true ↔ (x.1 < y.1 ∨ (x.1 = y.1 ∧ (x.2.1 < y.2.1 ∨ (x.2.1 = y.2.1 ∧ x.2.2 < y.2.2)))) := by unfold ltOf; rw [decide_eq_true_eq, cmpT_lt]
theorem ltT_no (x y : Int × Int × Int) : ltOf cmpT x y = false ↔ ¬ (x.1 < y.1 ∨ (x.1 = y.1 ∧ (x.2.1 < y.2.1 ∨ (x.2.1 = y.2.1 ∧ x.2.2 < y.2.2)))) := by rw [← ltT, Bool.not_eq_true]
theorem swoT : Go.Sort.SWO (ltOf cmpT) where
  irrefl x := by rw [ltT_no]; omega
  trans x y z h1 h2 := by rw [ltT] at *; omega
  ntrans x y z h1 h2 := by rw [ltT_no] at *; omega
theorem totT : ∀ x y, ltOf cmpT x y = false → ltOf cmpT y x = false → x = y := by
  rintro ⟨a, b, c⟩ ⟨a', b', c'⟩ h1 h2
  rw [ltT_no] at h1 h2
  dsimp only at h1 h2
  have e1 : a = a' := by omega
  have e2 : b = b' := by omega
  have e3 : c = c' := by omega
  rw [e1, e2, e3]

set_option maxRecDepth 100000 in
set_option maxHeartbeats 1600000 in
theorem cmpT_any (x y : Int × Int × Int) (w : World) : Calls Tryd.prog 19 #[.agg (encT x).toArray, .agg (encT y).toArray] w fun e w' => e = .returned (.int .i64 (cmpT x y)) ∧ Lays w w' := by
  unfold encT
  have CR := Lib.hid (fun W (h1 : Ints W (some ⟨w.heap.size, 0, none⟩) [x.1, x.2.1, x.2.2]) (h2 : Ints W (some ⟨w.heap.size + 1, 0, none⟩) [y.1, y.2.1, y.2.2]) => cpCompare_any (some ⟨w.heap.size, 0, none⟩) (some ⟨w.heap.size + 1, 0, none⟩) 3 3 3 3 [x.1, x.2.1, x.2.2] [y.1, y.2.1, y.2.2] W h1 h2 rfl rfl (by omega) (by omega))
  have CC := Lib.hid (fun W (h1 : Ints W (some ⟨w.heap.size, 0, none⟩) [x.1, x.2.1, x.2.2]) (h2 : Ints W (some ⟨w.heap.size + 1, 0, none⟩) [y.1, y.2.1, y.2.2]) (h3 : Lays w W) => (CR.out W h1 h2).mono (R' := fun e W' => e = .returned (.int .i64 (cmpL [x.1, x.2.1, x.2.2] [y.1, y.2.1, y.2.2])) ∧ Ints W' (some ⟨w.heap.size, 0, none⟩) [x.1, x.2.1, x.2.2] ∧ Ints W' (some ⟨w.heap.size + 1, 0, none⟩) [y.1, y.2.1, y.2.2] ∧ Lays w W') (fun e W' hh => by
    obtain ⟨he, q, rfl⟩ := hh
    exact ⟨he, h1, h2, h3.drewN q⟩))
  have HC := Lib.hid (show cmpT x y = cmpL [x.1, x.2.1, x.2.2] [y.1, y.2.1, y.2.2] from rfl)
  have hI1 : Ints ((w.alloc (.cells #[.int .i64 x.1, .int .i64 x.2.1, .int .i64 x.2.2] 54)).alloc (.cells #[.int .i64 y.1, .int .i64 y.2.1, .int .i64 y.2.2] 54)) (some ⟨w.heap.size, 0, none⟩) [x.1, x.2.1, x.2.2] := Sl.alloc (Ints_new w [x.1, x.2.1, x.2.2] 54 rfl) _
  have hI2 : Ints ((w.alloc (.cells #[.int .i64 x.1, .int .i64 x.2.1, .int .i64 x.2.2] 54)).alloc (.cells #[.int .i64 y.1, .int .i64 y.2.1, .int .i64 y.2.2] 54)) (some ⟨w.heap.size + 1, 0, none⟩) [y.1, y.2.1, y.2.2] := Ints_new _ [y.1, y.2.1, y.2.2] 54 (by simp)
  have hL0 : Lays w ((w.alloc (.cells #[.int .i64 x.1, .int .i64 x.2.1, .int .i64 x.2.2] 54)).alloc (.cells #[.int .i64 y.1, .int .i64 y.2.1, .int .i64 y.2.2] 54)) := ((Lays.refl w).alloc _).alloc _
  have W0E : ∃ W0, ((w.alloc (.cells #[.int .i64 x.1, .int .i64 x.2.1, .int .i64 x.2.2] 54)).alloc (.cells #[.int .i64 y.1, .int .i64 y.2.1, .int .i64 y.2.2] 54)) = W0 := ⟨_, rfl⟩
  clear CR
  generalize cmpL [x.1, x.2.1, x.2.2] [y.1, y.2.1, y.2.2] = r at *
  generalize cmpT x y = r' at *
  obtain rfl := HC.out
  go_enter Tryd.func19, Tryd.ntmps19
  go_wp2_with fail
  obtain ⟨W0, hW0⟩ := W0E
  rw [hW0] at hI1 hI2 hL0 ⊢
  clear hW0
  have SH := Lib.hid (And.intro hI1 (And.intro hI2 hL0.drew))
  refine wp_region_held_drew (S := fun W' => Ints W' (some ⟨w.heap.size, 0, none⟩) [x.1, x.2.1, x.2.2] ∧ Ints W' (some ⟨w.heap.size + 1, 0, none⟩) [y.1, y.2.1, y.2.2] ∧ Lays w W') (by kernel_rfl) SH.out (fun hHeld => ?_)
  refine anyH_take (i := 0) (v := ?_) (some 5) rfl rfl (by kernel_rfl) (by kernel_rfl) (by kernel_rfl) (fun _ _ _ h => h) (by rfl) (by assumption) ?_ ?_
  rotate_left
  · intro w hSw; (try dsimp only at hSw); go_split_ands; go_simp; try (with_reducible rfl)
  try simp only [Act.put, List.setIfInBounds_toArray, List.set_cons_zero, List.set_cons_succ]
  refine anyH_take (i := 1) (v := ?_) (some 6) rfl rfl (by kernel_rfl) (by kernel_rfl) (by kernel_rfl) (fun _ _ _ h => h) (by rfl) (by assumption) ?_ ?_
  rotate_left
  · intro w hSw; (try dsimp only at hSw); go_split_ands; go_simp; try (with_reducible rfl)
  try simp only [Act.put, List.setIfInBounds_toArray, List.set_cons_zero, List.set_cons_succ]
  refine anyH_call (i := 2) (some 7) rfl rfl (by kernel_rfl) (by rfl) (by go_simp) (CC.out _ hHeld.1 hHeld.2.1 hHeld.2.2) (fun W1 hS6 => ?_)
  clear hHeld
  have hHeld := hS6
  clear hS6
  try simp only [Act.put, List.setIfInBounds_toArray, List.set_cons_zero, List.set_cons_succ]
  refine anyH_take (i := 3) (v := ?_) (some 4) rfl rfl (by kernel_rfl) (by kernel_rfl) (by kernel_rfl) (fun _ _ _ h => h) (by rfl) (by assumption) ?_ ?_
  rotate_left
  · intro w hSw; (try dsimp only at hSw); go_split_ands; go_simp; try (with_reducible rfl)
  try simp only [Act.put, List.setIfInBounds_toArray, List.set_cons_zero, List.set_cons_succ]
  refine wpAnyH_done (by kernel_rfl) ?_ _
  have hl := hHeld.2.2
  clear hHeld
  go_wp2_with fail
  go_ret
  exact ⟨rfl, hl⟩
end Go.Proofs.YtjglanjfgbipmaaDoor
/- Contracts of the reference's composite, pair and Pair. Written by gen_refcps.py. -/
namespace Go.Proofs.YtjglanjfgbipmaaDoor
open Go.RowKit Go.Maps Go.WideMaps

theorem prL_mono {x : Nrm} {i : Nat} {p : Int × Int} {v : Int} (h : prL x (x.dec.take i) p = some v) : prL x x.dec p = some v := by
  unfold prL at *
  have e : x.dec = x.dec.take i ++ x.dec.drop i := (List.take_append_drop _ _).symm
  conv => lhs; rw [e]
  rw [List.find?_append]
  cases hf : (x.dec.take i).find? (cpAt x p) with
  | none => rw [hf] at h; cases h
  | some m => rw [hf] at h; exact h

end Go.Proofs.YtjglanjfgbipmaaDoor
/- Contracts of compose.Pairs and Primary. Written by gen_cppairs.py. -/
namespace Go.Proofs.YtjglanjfgbipmaaDoor
open Go.RowKit Go.Maps Go.WideMaps Go.Shelf

/-- a slice of triples is returned -/
def RetTri (L : List (Int × Int × Int)) (w : World) (e : Ending) (w' : World) : Prop := ∃ A c, e = .returned (.slice A L.length c) ∧ L.length ≤ c ∧ Sl w' A (L.flatMap encT) ∧ Below w.heap.size w w'
theorem info_tri : (Tryd.prog.info? 54).map (fun i => (i.zero, i.size, i.bytes)) = some (some (.agg #[.int .i64 0, .int .i64 0, .int .i64 0]), 3, 24) := by kernel_rfl
theorem pc_pok {x : Nrm} (h : NOk x) {p : Int × Int} {c : Int} (hp : pcN x p = some c) : pok p ∧ iok c := by
  unfold pcN pcL at hp
  split at hp
  · cases hp
  · obtain ⟨t, ht, h1, h2, _⟩ := prM_facts (x := x) (a := p.1) (b := p.2) (c := c) hp
    have hc := h.co t ht
    exact ⟨⟨iok_of (hc.2.2 p.1 (by rw [h2]; simp)), iok_of (hc.2.2 p.2 (by rw [h2]; simp))⟩, iok_code (by rw [← h1]; exact hc.1)⟩
theorem pcV_eq {F : Int × Int → Option Int} {p : Int × Int} {v : Value} (h : pcV F p = some v) : ∃ c, F p = some c ∧ v = .int .i64 c := by
  unfold pcV at h
  cases hf : F p with
  | none => rw [hf] at h; cases h
  | some c => rw [hf] at h; injection h with h; exact ⟨c, rfl, h.symm⟩
/-- what has been collected from a map -/
structure Coll (F : Int × Int → Option Int) (L : Int × Int → Prop) (acc : List (Int × Int × Int)) : Prop where
  mem : ∀ a b c, (a, b, c) ∈ acc ↔ pok (a, b) ∧ F (a, b) = some c ∧ ¬ L (a, b)
  keys : acc.Pairwise (fun x y => (x.1, x.2.1) ≠ (y.1, y.2.1))
theorem Coll.start (F : Int × Int → Option Int) : Coll F (fun p => (pcV F p).isSome = true) [] := by
  refine ⟨fun a b c => ⟨fun h => (by cases h), fun ⟨_, h2, h3⟩ => ?_⟩, List.Pairwise.nil⟩
  exact absurd (by rw [pcV_some, h2]; rfl) h3
theorem Coll.step {F : Int × Int → Option Int} {L : Int × Int → Prop} {acc : List (Int × Int × Int)} (h : Coll F L acc) {p : Int × Int} {c : Int} (hp : pok p) (hL : L p) (hf : F p = some c) : Coll F (fun y => L y ∧ y ≠ p) (acc ++ [(p.1, p.2, c)]) := by
  obtain ⟨p1, p2⟩ := p
  refine ⟨fun a b d => ?_, ?_⟩
  · rw [List.mem_append, h.mem, List.mem_singleton]
    constructor
    · rintro (⟨h1, h2, h3⟩ | e)
      · exact ⟨h1, h2, fun g => h3 g.1⟩
      · injection e with e1 e2
        injection e2 with e2 e3
        subst e1; subst e2; subst e3
        exact ⟨hp, hf, fun g => g.2 rfl⟩
    · rintro ⟨h1, h2, h3⟩
      by_cases e : (a, b) = (p1, p2)
      · injection e with e1 e2
        subst e1; subst e2
        rw [hf] at h2
        injection h2 with h2
        subst h2
        exact .inr rfl
      · exact .inl ⟨h1, h2, fun g => h3 ⟨g, e⟩⟩
  · rw [List.pairwise_append]
    refine ⟨h.keys, by simp, fun x hx y hy => ?_⟩
    rw [List.mem_singleton] at hy
    subst hy
    obtain ⟨x1, x2, x3⟩ := x
    intro e
    have := (h.mem x1 x2 x3).1 hx
    dsimp only at e
    rw [e] at this
    exact this.2.2 hL
/-- sorted, it is the list of pairs -/
theorem Coll.sorted {x : Nrm} (ho : NOk x) {L : Int × Int → Prop} {acc : List (Int × Int × Int)} (h : Coll (pcN x) L acc) (hL : ∀ p, pok p → ¬ L p) : PairsOk x (acc.mergeSort fun x y => !(ltOf cmpT) y x) := by
  have hperm := List.mergeSort_perm acc (fun x y => !(ltOf cmpT) y x)
  have hs := List.pairwise_mergeSort (le := fun x y => !(ltOf cmpT) y x) (fun a b c h1 h2 => by
      rw [Bool.not_eq_true'] at *
      exact swoT.ntrans c b a h2 h1) (fun a b => by
      cases h1 : ltOf cmpT b a with
      | false => rfl
      | true =>
        cases h2 : ltOf cmpT a b with
        | false => rfl
        | true => have := swoT.trans a b a h2 h1; rw [swoT.irrefl] at this; cases this) acc
  have hk : (acc.mergeSort fun x y => !(ltOf cmpT) y x).Pairwise (fun x y => (x.1, x.2.1) ≠ (y.1, y.2.1)) := (hperm.symm.pairwise_iff (fun {a b} (h : (a.1, a.2.1) ≠ (b.1, b.2.1)) => h.symm)).1 h.keys
  refine ⟨(hs.and hk).imp fun {a b} hab => ?_, fun a b c => ?_⟩
  · obtain ⟨h1, h2⟩ := hab
    rw [Bool.not_eq_true', ltT_no] at h1
    unfold befT
    have h3 : ¬ (a.1 = b.1 ∧ a.2.1 = b.2.1) := fun e => h2 (by rw [e.1, e.2])
    omega
  · rw [hperm.mem_iff, h.mem]
    constructor
    · exact fun g => g.2.1
    · intro g
      have := (pc_pok ho g).1
      exact ⟨this, g, hL _ this⟩
theorem flatT_len (L : List (Int × Int × Int)) : (L.flatMap encT).length = L.length * 3 := flat_len (enc := encT) (fun _ => rfl) L
theorem one_encT (x : Int × Int × Int) : ∀ v ∈ encT x, v.oneCell' = true := by
  intro v hv
  simp [encT] at hv
  rcases hv with rfl | rfl | rfl <;> rfl

set_option maxRecDepth 100000 in
set_option maxHeartbeats 3200000 in
theorem cpPairs_any (A0 : Option Addr) (n0 k0 : Nat) (A1 : Option Addr) (n1 k1 : Nat) (A2 : Option Addr) (n2 k2 : Nat) (x : Nrm) (w : World) (hN : NrmAt w A0 n0 A1 n1 A2 n2 x) (hz : NrmSz x) (hL : Laid w) :
    Calls Tryd.prog 10 #[.agg #[.slice A0 n0 k0, .slice A1 n1 k1, .slice A2 n2 k2]] w (fun e w' => ∃ L, PairsOk (usN x) L ∧ RetTri L w e w') := by
  have hB : Below w.heap.size w (w.alloc (.cells #[.slice A0 n0 k0, .slice A1 n1 k1, .slice A2 n2 k2] 35)) := (Below.refl _ _).alloc (Nat.le_refl _) _
  have UC := Lib.hid (cpUsable_any A0 n0 k0 A1 n1 k1 A2 n2 k2 x _ (hN.below hB) hz (hL.below hB))
  have HB := Lib.hid hB
  have CC := Lib.hid (fun B0 c0 B1 c1 B2 c2 W (hN : NrmAt W B0 (usN x).cls.length B1 (usN x).dec.length B2 (usN x).exc.length (usN x)) (hb : Below w.heap.size w W) => composites_any B0 _ c0 B1 _ c1 B2 _ c2 (usN x) W hN hz.us (usN_ok x) (hL.below hb))
  have hzu := hz.us.z1.n
  have HO := Lib.hid (usN_ok x)
  clear hN hz hL hB
  generalize usN x = y at *
  have SO := Lib.hid (fun base A c (d : List (Int × Int × Int)) W (hown : W.ownsRow base 54 3 (.slice A d.length c) d.length (d.flatMap encT)) hsz => show Calls Tryd.prog 18 #[.slice A d.length c, .func (.func 19) #[] #[]] W (fun e' w' => e' = .returned (.tuple #[]) ∧ w'.ownsRow base 54 3 (.slice A d.length c) d.length ((d.mergeSort fun x y => !(ltOf cmpT) y x).flatMap encT) ∧ W.grownBy w' (Value.ownBlock (.slice A d.length c))) from sort_own (k := 3) laySort3 Tryd.isAgg54 Tryd.sizeOf54 (fun _ => rfl) (by decide) one_encT cmpT swoT totT 19 #[] (enters_of Tryd.func19 (by kernel_rfl) rfl) (fun W x y => cmpT_any x y W) base 54 A c d W hown hsz)
  have HSO := Lib.hid (fun L acc (h : Coll (pcN y) L acc) hL => h.sorted HO.out hL)
  generalize hF : pcN y = F at *
  clear hF
  go_enter Tryd.func10, Tryd.ntmps10
  go_wp2_with fail
  with_reducible refine UC.out.mono ?_
  rintro e W1 ⟨B0, c0, B1, c1, B2, c2, rfl, hN1, hb1⟩
  have hb := HB.out.trans (hb1.mono HB.out.size)
  have C2 := Lib.hid (CC.out B0 c0 B1 c1 B2 c2 W1 hN1 hb)
  clear hN1 hb1 CC UC
  go_wp2_with fail
  with_reducible refine C2.out.mono ?_
  rintro e W2 ⟨b, rfl, hM, hbb, hb2⟩
  have hb3 := hb.trans (hb2.mono hb.size)
  have HM := Lib.hid hM
  have hbl := hM.lt
  clear hM hb2 C2
  go_wp2_with (at_range; refine wpList_mrange rfl _ _ rfl HM.out law_pair Tryd.underlying49 rfl ?_; intro w0 cnt0 hrg0 hg0 hs0)
  go_frame
  have hcn := hrg0.cnt_le
  have hb4 : Below w.heap.size w w0 := hb3.grown hg0 hb3.size (fun j hj => by cases hj)
  have HRG0 := Lib.hid hrg0
  clear hrg0 hg0
  go_loopw [3, 5] (fun v _ wr => ∃ (L : Int × Int → Prop) (cnt : Nat) (acc : List (Int × Int × Int)) (B : Option Addr) (c : Nat), v = .slice B acc.length c ∧ MRange Tryd.prog 53 plit pok wr b W2.heap.size y.dec.length (pcV F) L cnt ∧ (∀ p, pok p → L p → (pcV F p).isSome = true) ∧ Coll F L acc ∧ acc.length + cnt ≤ y.dec.length ∧
      wr.ownsRow (W2.heap.size + 1) 54 3 (.slice B acc.length c) acc.length (acc.flatMap encT) ∧ Below w.heap.size w wr ∧ W2.heap.size + 1 ≤ wr.heap.size) (fun _ _ wr => wr.rangeLeft b W2.heap.size)
  case atStart => exact ⟨_, cnt0, [], none, 0, rfl, HRG0.out, fun p _ h => h, Coll.start F, by simpa using hcn, World.ownsRow_nil _ _ _ _, hb4, by omega⟩
  case round =>
    clear hb4 HRG0 hs0
    obtain ⟨L, cnt, acc, B, c, rfl, hrg, hLs, hco, hcl, hown, hbr, hsr⟩ := hrel
    have HOWN := Lib.hid hown; have HCO := Lib.hid hco; have HLS := Lib.hid hLs
    clear hown hco hLs
    go_wp2_with (at_next; refine wpList_mnext (mkK := pval) rfl _ rfl hrg law_pair (fun key l h => pkey_inv h) (fun x y hx hy h => plit_inj hx hy h) HLS.out rfl ?_ ?_)
    · intro hc0 hl0
      have hSL := Lib.hid (HSO.out L acc HCO.out (fun p hp => hl0 p.1 p.2 hp))
      have SS := Lib.hid (SO.out _ B c acc wr HOWN.out (by omega))
      have hml : (acc.mergeSort fun x y => !(ltOf cmpT) y x).length = acc.length := List.length_mergeSort _
      have HML := Lib.hid hml
      clear hml
      obtain ⟨_, _, hv, hcc⟩ := own_form HOWN.out
      injection hv with hA' _ hcc'
      subst hA'
      subst hcc'
      go_wp2_with fail
      with_reducible refine SS.out.mono ?_
      rintro e w5 ⟨rfl, hown5, hg5⟩
      have hb5 : Below w.heap.size w w5 := hbr.grown hg5 hbr.size (fun j hj => by have := (HOWN.out.lt j hj); have := hb3.size; omega)
      have HI := Lib.hid (Sl.of_own hown5)
      clear hown5 hg5 SS
      go_wp2_with fail
      go_ret
      exact ⟨_, hSL.out, B, c, by rw [HML.out]; rfl, by rw [HML.out]; exact hcc, HI.out, hb5⟩
    · intro p1 p2 v w1 cnt1 hp hLp hfp hrg1 hlt1 hg1 hs1 hen
      obtain ⟨cv, hFp, rfl⟩ := pcV_eq hfp
      have HCO1 := Lib.hid (HCO.out.step hp hLp hFp)
      have hLS1 := Lib.hid (fun q (hq : pok q) (h : L q ∧ q ≠ (p1, p2)) => HLS.out q hq h.1)
      have hbo : ∀ j, Value.ownBlock (.slice B acc.length c) = some j → j ≠ W2.heap.size := fun j hj => by have := (HOWN.out.lt j hj).1; omega
      have hown1 := HOWN.out.kept hg1 (by
        cases ho : Value.ownBlock (.slice B acc.length c) with
        | none => exact .inl rfl
        | some j => exact .inr (fun e => hbo j ho (by injection e)))
      have HO1 := Lib.hid hown1
      have hbw1 := below_grown hbr hg1 (by have := hb3.size; omega) hbr.size
      have HR1 := Lib.hid hrg1
      clear hown1 hrg1 HOWN
      dsimp only [pval] at hen ⊢
      have HFL := Lib.hid (show (acc ++ [(p1, p2, cv)]).flatMap encT = acc.flatMap encT ++ [.int .i64 p1, .int .i64 p2, .int .i64 cv] from by rw [List.flatMap_append]; rfl)
      have hsz1 : W2.heap.size + 1 ≤ w1.heap.size := by omega
      have hal : Below w1.heap.size w1 (w1.alloc (.cells #[.int .i64 p1, .int .i64 p2] 53)) := (Below.refl _ _).alloc (Nat.le_refl _) _
      have HOA := Lib.hid (own_keep HO1.out hal)
      have hszA : W2.heap.size + 1 ≤ (w1.alloc (.cells #[.int .i64 p1, .int .i64 p2] 53)).heap.size := by simp; omega
      have hbA := hbw1.trans (hal.mono hbw1.size)
      have HRA := Lib.hid (HR1.out.below hal)
      clear HO1
      go_wp2_with (at_builtin; refine wpList_app _ _ 44 54 (.agg #[.int .i64 0, .int .i64 0, .int .i64 0]) 3 24 rfl rfl Tryd.underlying44 info_tri rfl (by decide) (by decide) rfl (HOA.out.alloc _) rfl (Sl_new (w1.alloc (.cells #[.int .i64 p1, .int .i64 p2] 53)) [.int .i64 p1, .int .i64 p2, .int .i64 cv] 54 (by simp <;> omega)) (by simp) (oneCell_ints [p1, p2, cv]) (by omega) (by simp at hszA ⊢; omega) ?_; intro B1 c1' w5 hown5 hc5 hb5 hg5 hB5)
      have hal2 := (Below.refl (w1.alloc (.cells #[.int .i64 p1, .int .i64 p2] 53)).heap.size (w1.alloc (.cells #[.int .i64 p1, .int .i64 p2] 53))).alloc (Nat.le_refl _) (.cells #[.int .i64 p1, .int .i64 p2, .int .i64 cv] 54)
      have hrg5 : MRange Tryd.prog 53 plit pok w5 b W2.heap.size y.dec.length (pcV F) (fun z => L z ∧ z ≠ (p1, p2)) cnt1 := (HRA.out.below hal2).kept hg5 (by
          intro e
          have := (HOA.out.lt b (by rw [← e])).1
          omega) (by
          intro e
          have := (HOA.out.lt W2.heap.size (by rw [← e])).1
          omega)
      go_roundw
      case rel =>
        refine ⟨_, cnt1, acc ++ [(p1, p2, cv)], B1, c1', ?_, hrg5, hLS1.out, HCO1.out, by rw [List.length_append, List.length_singleton]; omega, ?_, (hbA.trans (hal2.mono hbA.size)).trans (hb5.mono (by have := hb3.size; omega)), by have := hb5.size; have := hal2.size; omega⟩
        · rw [List.length_append]; rfl
        · rw [HFL.out, List.length_append]; exact hown5
      case measure => rw [hrg5.left_eq, hrg.left_eq]; omega
end Go.Proofs.YtjglanjfgbipmaaDoor
/- The contract of compose.Primary. -/
namespace Go.Proofs.YtjglanjfgbipmaaDoor
open Go.RowKit Go.Maps Go.WideMaps Go.Shelf

/-- whether a number is a primary composite is returned -/
def RetPrim (x : Nrm) (c : Int) (w : World) (e : Ending) (w' : World) : Prop := ∃ b : Bool, e = .returned (.bool b) ∧ (b = true ↔ 4 ≤ Hg.kind c ∨ ∃ p, pcN x p = some c) ∧ Below w.heap.size w w'

set_option maxRecDepth 100000 in
set_option maxHeartbeats 3200000 in
theorem cpPrimary_any (A0 : Option Addr) (n0 k0 : Nat) (A1 : Option Addr) (n1 k1 : Nat) (A2 : Option Addr) (n2 k2 : Nat) (x : Nrm) (c : Int) (w : World) (hN : NrmAt w A0 n0 A1 n1 A2 n2 x) (hz : NrmSz x) (hL : Laid w) :
    Calls Tryd.prog 9 #[.agg #[.slice A0 n0 k0, .slice A1 n1 k1, .slice A2 n2 k2], .int .i64 c] w (RetPrim (usN x) c w) := by
  have hB : Below w.heap.size w (w.alloc (.cells #[.slice A0 n0 k0, .slice A1 n1 k1, .slice A2 n2 k2] 35)) := (Below.refl _ _).alloc (Nat.le_refl _) _
  have hX : Box (w.alloc (.cells #[.slice A0 n0 k0, .slice A1 n1 k1, .slice A2 n2 k2] 35)) w.heap.size 35 [.slice A0 n0 k0, .slice A1 n1 k1, .slice A2 n2 k2] := Box.new w _ [.slice A0 n0 k0, .slice A1 n1 k1, .slice A2 n2 k2] rfl
  have UC := Lib.hid (cpUsable_any A0 n0 k0 A1 n1 k1 A2 n2 k2 x _ (hN.below hB) hz (hL.below hB))
  have HB := Lib.hid hB
  have HX := Lib.hid hX
  have CC := Lib.hid (fun B0 c0 B1 c1 B2 c2 W (hN : NrmAt W B0 (usN x).cls.length B1 (usN x).dec.length B2 (usN x).exc.length (usN x)) (hb : Below w.heap.size w W) => composites_any B0 _ c0 B1 _ c1 B2 _ c2 (usN x) W hN hz.us (usN_ok x) (hL.below hb))
  have HPK := Lib.hid (fun p v (h : pcN (usN x) p = some v) => (pc_pok (usN_ok x) h).1)
  have KC := Lib.hid (Kind_any c (w.alloc (.cells #[.slice A0 n0 k0, .slice A1 n1 k1, .slice A2 n2 k2] 35)))
  unfold RetPrim
  clear hN hz hL hB hX
  generalize usN x = y at *
  generalize hF : pcN y = F at *
  clear hF
  generalize Hg.kind c = kc at *
  go_enter Tryd.func9, Tryd.ntmps9
  go_wp2_with fail
  with_reducible refine KC.out.mono ?_
  rintro e W0 ⟨rfl, rfl⟩
  by_cases h4 : 4 ≤ kc
  · have HR := Lib.hid (Or.inl h4 : 4 ≤ kc ∨ ∃ p, F p = some c)
    go_wp2_with fail
    go_ret
    exact ⟨true, rfl, ⟨fun _ => HR.out, fun _ => rfl⟩, HB.out⟩
  · have H4 := Lib.hid h4
    have g0 := HX.out.cell (i := 0) rfl
    have g1 := HX.out.cell (i := 1) rfl
    have g2 := HX.out.cell (i := 2) rfl
    go_wp2_with fail
    with_reducible refine UC.out.mono ?_
    rintro e W1 ⟨B0, c0, B1, c1, B2, c2, rfl, hN1, hb1⟩
    have hb := HB.out.trans (hb1.mono HB.out.size)
    have C2 := Lib.hid (CC.out B0 c0 B1 c1 B2 c2 W1 hN1 hb)
    clear hN1 hb1 CC UC g0 g1 g2 h4
    go_wp2_with fail
    with_reducible refine C2.out.mono ?_
    rintro e W2 ⟨b, rfl, hM, hbb, hb2⟩
    have hb3 := hb.trans (hb2.mono hb.size)
    have HM := Lib.hid hM
    have hbl := hM.lt
    clear hM hb2 C2
    go_wp2_with (at_range; refine wpList_mrange rfl _ _ rfl HM.out law_pair Tryd.underlying49 rfl ?_; intro w0 cnt0 hrg0 hg0 hs0)
    go_frame
    have hb4 : Below w.heap.size w w0 := hb3.grown hg0 hb3.size (fun j hj => by cases hj)
    have HRG0 := Lib.hid hrg0
    clear hrg0 hg0
    go_loopw [6] (fun _ wr => ∃ (L : Int × Int → Prop) (cnt : Nat), MRange Tryd.prog 53 plit pok wr b W2.heap.size y.dec.length (pcV F) L cnt ∧ (∀ p, pok p → L p → (pcV F p).isSome = true) ∧ (∀ p, pok p → ¬ L p → F p ≠ some c) ∧ Below w.heap.size w wr) (fun _ wr => wr.rangeLeft b W2.heap.size)
    case atStart => exact ⟨_, cnt0, HRG0.out, fun p _ h => h, fun p _ h e => h (by rw [pcV_some, e]; rfl), hb4⟩
    case round =>
      clear hb4 HRG0 hs0
      obtain ⟨L, cnt, hrg, hLs, hno, hbr⟩ := hrel
      have HNO := Lib.hid hno; have HLS := Lib.hid hLs
      clear hno hLs
      go_wp2_with (at_next; refine wpList_mnext (mkK := pval) rfl _ rfl hrg law_pair (fun key l h => pkey_inv h) (fun x y hx hy h => plit_inj hx hy h) HLS.out rfl ?_ ?_)
      · intro hc0 hl0
        have HF := Lib.hid (show ¬ (4 ≤ kc ∨ ∃ p, F p = some c) from by
          rintro (h | ⟨p, hp⟩)
          · have := H4.out; omega
          · exact HNO.out p (HPK.out p c hp) (hl0 p.1 p.2 (HPK.out p c hp)) hp)
        go_wp2_with fail
        go_ret
        exact ⟨false, rfl, ⟨fun h => (by cases h), fun h => absurd h HF.out⟩, hbr⟩
      · intro p1 p2 v w1 cnt1 hp hLp hfp hrg1 hlt1 hg1 hs1 hen
        obtain ⟨cv, hFp, rfl⟩ := pcV_eq hfp
        have hLS1 := Lib.hid (fun q (hq : pok q) (h : L q ∧ q ≠ (p1, p2)) => HLS.out q hq h.1)
        have hbw1 := below_grown hbr hg1 (by have := hb3.size; omega) hbr.size
        have HR1 := Lib.hid hrg1
        have HFP := Lib.hid hFp
        clear hrg1 hFp hfp
        dsimp only [pval] at hen ⊢
        by_cases he : cv = c
        · have HF := Lib.hid (Or.inr ⟨(p1, p2), by rw [HFP.out, he]⟩ : 4 ≤ kc ∨ ∃ p, F p = some c)
          subst he
          go_wp2_with fail
          go_ret
          exact ⟨true, rfl, ⟨fun _ => HF.out, fun _ => rfl⟩, hbw1⟩
        · have HN2 := Lib.hid (show ∀ q, pok q → ¬ (L q ∧ q ≠ (p1, p2)) → F q ≠ some c from fun q hq h e => by
            by_cases e2 : q = (p1, p2)
            · subst e2; rw [HFP.out] at e; injection e with e; exact he e
            · exact HNO.out q hq (fun g => h ⟨g, e2⟩) e)
          go_wp2_with fail
          go_roundw
          case rel => exact ⟨_, cnt1, HR1.out, hLS1.out, HN2.out, hbw1⟩
          case measure => rw [HR1.out.left_eq, hrg.left_eq]; omega
end Go.Proofs.YtjglanjfgbipmaaDoor
/- The contract of the reference's Sort: the text in order. -/
namespace Go.Proofs.YtjglanjfgbipmaaDoor
open Go.RowKit

theorem set_two (p q : List Int) (x y : Int) : ((p ++ y :: x :: q).set (p.length + 1) y).set p.length x = p ++ x :: y :: q := by
  rw [List.set_append_right _ _ (by omega), List.set_append_right _ _ (by omega)]
  simp

/-- an owned row of ints: its block, cells and stores -/
theorem own_ints {w : World} {base n c : Nat} {e : TypeId} {A : Option Addr} {d : List Int} (h : w.ownsRow base e 1 (.slice A n c) n (d.map (Value.int .i64))) (hn : 0 < n) :
    ∃ g, A = some ⟨g, 0, none⟩ ∧ base ≤ g ∧ d.length = n ∧ (∀ i x, d[i]? = some x → w.cell? ⟨g, i, none⟩ = some (.int .i64 x)) ∧ (∀ i, w.frozen? ⟨g, i, none⟩ = false) := by
  have hl : d.length = n := by have := h.1; simpa using this
  rcases h.2 with ⟨hv, rfl⟩ | ⟨g, cap, cur, hv, hb, _⟩
  · omega
  · injection hv with hA _ hc
    subst hA; subst hc
    refine ⟨g, rfl, hb, hl, fun i x hx => ?_, fun i => h.frozenAt i⟩
    have hi : i < d.length := (List.getElem?_eq_some_iff.1 hx).1
    rw [h.cellAt i (by omega), List.getElem?_map, hx]
    rfl


end Go.Proofs.YtjglanjfgbipmaaDoor
