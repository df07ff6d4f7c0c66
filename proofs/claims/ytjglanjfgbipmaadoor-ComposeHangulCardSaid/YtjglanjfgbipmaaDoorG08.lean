/- Texts that are merged into one file: Once, MapI, MeasA, MeasB, MeasP, OClass. -/
import Derived.Test.YtjglanjfgbipmaaDoorG01
import Derived.Test.YtjglanjfgbipmaaDoorG02
import Derived.Test.YtjglanjfgbipmaaDoorG03
import Derived.Test.YtjglanjfgbipmaaDoorG04
import Derived.Test.YtjglanjfgbipmaaDoorG06
import Derived.Test.YtjglanjfgbipmaaDoorG07
import Derived.Test.YtjglanjfgbipmaaDoorProg
import Derived.Outline
/- Contracts of decompose.once$1, BinarySearchFunc at mappings, and decompose.once: what a number is replaced by, where the mappings are in order. -/
namespace Go.Proofs.YtjglanjfgbipmaaDoor
open Go.RowKit

/-- the mappings are in order, with at most one for each number -/
def StF (ms : List Mp) : Prop := ∀ i j, (hi : i < ms.length) → (hj : j < ms.length) → i < j → ms[i].frm < ms[j].frm

theorem onceF_any (f : Int) (va : Value) (t : ByteArray) (c : Int) (w : World) : Calls Tryd.prog 71 #[.agg #[.int .i64 f, va, .string t], .int .i64 c] w (RetInt (cmpI f c) w) := by
  have C := Lib.hid (fun W => cmpCompare_any f c W)
  generalize cmpI f c = r at *
  go_enter Tryd.func71, Tryd.ntmps71
  go_wp2_with fail
  with_reducible refine (C.out _).mono ?_
  rintro e w1 ⟨rfl, rfl⟩
  go_wp2_with fail
  go_ret
  exact ⟨rfl, (Below.refl _ _).alloc (Nat.le_refl _) _⟩

/-- where a search for a number ends -/
structure SrchM (ms : List Mp) (c : Int) (i : Nat) (f : Bool) : Prop where
  le : i ≤ ms.length
  lo : ∀ t, (ht : t < ms.length) → t < i → ms[t].frm < c
  hi : ∀ t, (ht : t < ms.length) → i ≤ t → c ≤ ms[t].frm
  fd : f = decide (∃ h : i < ms.length, ms[i].frm = c)
def RetSrchM (ms : List Mp) (c : Int) (w : World) (e : Ending) (w' : World) : Prop := ∃ (i : Nat) (f : Bool), e = .returned (.tuple #[.int .i64 i, .bool f]) ∧ SrchM ms c i f ∧ Below w.heap.size w w'

set_option maxHeartbeats 1600000 in
theorem bsearchM_any (A : Option Addr) (n k : Nat) (ms : List Mp) (c : Int) (w : World) (hA : Mps w A ms) (hn : ms.length = n) (hbig : n ≤ 1048576) (hasc : StF ms) :
    Calls Tryd.prog 70 #[.slice A n k, .int .i64 c, .func (.func 71) #[] #[]] w (RetSrchM ms c w) := by
  subst hn
  have HS := Lib.hid hasc; clear hasc
  go_enter Tryd.func70, Tryd.ntmps70
  go_wp2
  go_loopw [9, 10] (fun u v wr => ∃ i j : Nat, i ≤ j ∧ j ≤ ms.length ∧ u = .int .i64 i ∧ v = .int .i64 j ∧ (∀ t, (ht : t < ms.length) → t < i → ms[t].frm < c) ∧ (∀ t, (ht : t < ms.length) → j ≤ t → c ≤ ms[t].frm) ∧ Below w.heap.size w wr)
    (fun u v _ => (intOf v).toNat - (intOf u).toNat)
  case atStart => exact ⟨0, ms.length, Nat.zero_le _, Nat.le_refl _, rfl, rfl, fun t _ h => by omega, fun t h1 h2 => by omega, Below.refl _ _⟩
  case round =>
    obtain ⟨i, j, hij, hj, rfl, rfl, hlo, hhi, hbel⟩ := hrel
    have HLO := Lib.hid hlo; have HHI := Lib.hid hhi; clear hlo hhi
    by_cases hlt : i < j
    · obtain ⟨h, hh, h1, h2, h3⟩ : ∃ h : Nat, ((i : Int) + (j : Int)) / 2 = (h : Int) ∧ i ≤ h ∧ h < j ∧ h < ms.length := ⟨(i + j) / 2, by omega, by omega, by omega, by omega⟩
      obtain ⟨b, o, rfl, _, hcell⟩ := (hA.below hbel).at h3
      obtain ⟨D, d, c1, c2, c3, _, _⟩ := hcell h h3
      clear hcell
      have HO := Lib.hid (fun t (ht : t < ms.length) (hth : t < h) => HS.out t h ht h3 hth)
      have HO2 := Lib.hid (fun t (ht : t < ms.length) (hth : h < t) => HS.out h t h3 ht hth)
      generalize hf : ms[h].frm = f at *
      generalize ms[h].to.length = tl at *
      generalize ms[h].tag = tg at *
      have E2 := Lib.hid hf
      have C := Lib.hid (fun W => onceF_any f (.slice D tl d) tg c W)
      clear hf
      by_cases hk : f < c
      · have hsc : cmpI f c = -1 := by unfold cmpI; rw [if_pos hk]
        rw [hsc] at C; clear hsc
        go_wp2_with (go_at_call 71; refine (C.out _).mono ?_; rintro e w1 ⟨rfl, hb1⟩)
        go_roundw
        case rel =>
          refine ⟨h + 1, j, by omega, hj, by go_num, rfl, fun t ht g => ?_, HHI.out, hbel.trans (hb1.mono hbel.size)⟩
          by_cases e : t = h
          · subst e; rw [E2.out]; exact hk
          · have a1 := HO.out t ht (by omega)
            omega
        case measure => simp [intOf]; omega
      · have hsc : 0 ≤ cmpI f c := by unfold cmpI; rw [if_neg hk]; split <;> omega
        generalize cmpI f c = sc at *
        go_wp2_with (go_at_call 71; refine (C.out _).mono ?_; rintro e w1 ⟨rfl, hb1⟩)
        go_roundw
        case rel =>
          refine ⟨i, h, h1, by omega, rfl, rfl, HLO.out, fun t ht g => ?_, hbel.trans (hb1.mono hbel.size)⟩
          by_cases e : t = h
          · subst e; rw [E2.out]; omega
          · have a1 := HO2.out t ht (by omega)
            omega
        case measure => simp [intOf]; omega
    · obtain rfl : i = j := by omega
      by_cases hend : i < ms.length
      · obtain ⟨b, o, rfl, _, hcell⟩ := (hA.below hbel).at hend
        obtain ⟨D, d, c1, c2, c3, _, _⟩ := hcell i hend
        clear hcell
        have hci := HHI.out i hend (Nat.le_refl _)
        have HF := Lib.hid (show decide (∃ h : i < ms.length, ms[i].frm = c) = (cmpI ms[i].frm c == 0) by
          rw [Bool.eq_iff_iff]; simp only [decide_eq_true_eq, beq_iff_eq]; unfold cmpI; rw [if_neg (by omega)]; split
          · constructor
            · rintro ⟨_, h⟩; omega
            · intro h; omega
          · exact ⟨fun _ => rfl, fun _ => ⟨hend, by omega⟩⟩)
        clear hci
        generalize ms[i].frm = f at *
        generalize ms[i].to.length = tl at *
        generalize ms[i].tag = tg at *
        have C := Lib.hid (fun W => onceF_any f (.slice D tl d) tg c W)
        generalize cmpI f c = sc at *
        go_wp2_with (go_at_call 71; refine (C.out _).mono ?_; rintro e w1 ⟨rfl, hb1⟩)
        go_ret2
        refine ⟨i, _, rfl, ⟨hj, HLO.out, HHI.out, ?_⟩, hbel.trans (hb1.mono hbel.size)⟩
        exact HF.out.symm
      · go_wp2_with fail
        go_ret2
        refine ⟨i, _, rfl, ⟨hj, HLO.out, HHI.out, ?_⟩, hbel⟩
        simp [hend]

theorem fndM_some {ms : List Mp} {compat : Bool} {c : Int} {i : Nat} (hs : StF ms) (hi : i < ms.length) (h : ms[i].frm = c) : fndM ms compat c = if compat = true ∨ ms[i].tag.size = 0 then some i else none := by
  by_cases e : compat = true ∨ ms[i].tag.size = 0
  · rw [if_pos e]
    unfold fndM
    rw [List.findIdx?_eq_some_iff_getElem]
    refine ⟨hi, by simpa [h] using e, fun j hj => ?_⟩
    have := hs j i (by omega) hi hj
    simp
    intro he
    omega
  · rw [if_neg e]
    unfold fndM
    rw [List.findIdx?_eq_none_iff]
    intro x hx
    obtain ⟨j, hj, rfl⟩ := List.getElem_of_mem hx
    by_cases g : j = i
    · subst g; simpa [h] using e
    · have : ¬ ms[j].frm = c := fun he => by
        rcases Nat.lt_or_gt_of_ne g with g | g
        · have := hs j i hj hi g; omega
        · have := hs i j hi hj g; omega
      simp [this]
theorem fndM_none {ms : List Mp} {compat : Bool} {c : Int} (h : ∀ i, (hi : i < ms.length) → ¬ ms[i].frm = c) : fndM ms compat c = none := by
  unfold fndM
  rw [List.findIdx?_eq_none_iff]
  intro x hx
  obtain ⟨j, hj, rfl⟩ := List.getElem_of_mem hx
  simp [h j hj]
theorem SrchM.no {ms : List Mp} {c : Int} {i : Nat} {compat : Bool} (hs : StF ms) (h : SrchM ms c i false) : fndM ms compat c = none := by
  refine fndM_none fun t ht e => ?_
  have hf := h.fd
  have hn : ¬ ∃ g : i < ms.length, ms[i].frm = c := by simpa using hf.symm
  by_cases g : t < i
  · have := h.lo t ht g; omega
  · by_cases g2 : t = i
    · subst g2; exact hn ⟨ht, e⟩
    · have h1 := h.hi i (by omega) (Nat.le_refl _)
      have h2 := hs i t (by omega) ht (by omega)
      omega

/-- the value of the data of normalization -/
def nrmV (A0 : Option Addr) (n0 k0 : Nat) (A1 : Option Addr) (n1 k1 : Nat) (A2 : Option Addr) (n2 k2 : Nat) : Value := .agg #[.slice A0 n0 k0, .slice A1 n1 k1, .slice A2 n2 k2]

set_option maxRecDepth 100000 in
set_option maxHeartbeats 1600000 in
theorem once_any (A0 : Option Addr) (n0 k0 : Nat) (A1 : Option Addr) (n1 k1 : Nat) (A2 : Option Addr) (n2 k2 : Nat) (ms : List Mp) (c : Int) (compat : Bool) (w : World) (hA : Mps w A1 ms) (hn : ms.length = n1) (hbig : n1 ≤ 1048576) (hasc : StF ms) :
    Calls Tryd.prog 56 #[.agg #[.slice A0 n0 k0, .slice A1 n1 k1, .slice A2 n2 k2], .int .i64 c, .bool compat] w (RetGet (onM ms compat c) w) := by
  subst hn
  have K := Lib.hid (fun W => Kind_any c W)
  have D := Lib.hid (fun W => Decompose_any c W)
  have S := Lib.hid (fun W (hb : Below w.heap.size w W) => bsearchM_any A1 ms.length k1 ms c W (hA.below hb) rfl hbig hasc)
  have HS := Lib.hid hasc
  clear hasc
  have R4 := Lib.hid (fun (h : 4 ≤ Hg.kind c) => show onM ms compat c = some (Hg.decomp c) from if_pos h)
  have R0 := Lib.hid (fun (h : ¬ 4 ≤ Hg.kind c) => show onM ms compat c = (fndM ms compat c).map (toM ms) from if_neg h)
  generalize onM ms compat c = R at *
  generalize Hg.kind c = kc at *
  have B0 : Below w.heap.size w (w.alloc (.cells #[.slice A0 n0 k0, .slice A1 ms.length k1, .slice A2 n2 k2] 35)) := (Below.refl _ _).alloc (Nat.le_refl _) _
  have s0 : (w.alloc (.cells #[.slice A0 n0 k0, .slice A1 ms.length k1, .slice A2 n2 k2] 35)).heap.size = w.heap.size + 1 := by simp
  have q0 : (w.alloc (.cells #[.slice A0 n0 k0, .slice A1 ms.length k1, .slice A2 n2 k2] 35)).cell? ⟨w.heap.size, 1, none⟩ = some (.slice A1 ms.length k1) := by simp
  have W0E : ∃ W0, (w.alloc (.cells #[.slice A0 n0 k0, .slice A1 ms.length k1, .slice A2 n2 k2] 35)) = W0 := ⟨_, rfl⟩
  go_enter Tryd.func56, Tryd.ntmps56
  go_wp2_with fail
  obtain ⟨W0, hW0⟩ := W0E
  rw [hW0] at B0 s0 q0 ⊢
  clear hW0
  with_reducible refine (K.out _).mono ?_
  rintro e w1 ⟨rfl, rfl⟩
  by_cases h4 : 4 ≤ kc
  · obtain rfl := R4.out h4
    clear R4 R0
    generalize Hg.decomp c = zs at *
    go_wp2_with fail
    with_reducible refine (D.out _).mono ?_
    rintro e w1 ⟨E, d, rfl, hd, hE, hb⟩
    go_wp2_with fail
    go_ret2
    exact ⟨E, d, rfl, hd, hE, B0.trans (hb.mono B0.size)⟩
  · have HR := Lib.hid (R0.out (by omega))
    clear R4 R0
    go_wp2_with fail
    with_reducible refine (S.out _ B0).mono ?_
    rintro e W1 ⟨i, f, rfl, hs, hb1⟩
    have hb := B0.trans (hb1.mono B0.size)
    have q1 : W1.cell? ⟨w.heap.size, 1, none⟩ = some (.slice A1 ms.length k1) := (hb1.cell (show w.heap.size < W0.heap.size by omega)).trans q0
    cases f with
    | false =>
      obtain rfl : R = none := by rw [HR.out, hs.no HS.out]; rfl
      clear hs
      go_wp2_with fail
      go_ret2
      exact ⟨.none, 0, rfl, Nat.le_refl _, Sl.nil _ _, hb⟩
    | true =>
      obtain ⟨hi, hfr⟩ : ∃ h : i < ms.length, ms[i].frm = c := by simpa using hs.fd.symm
      have hfd := fndM_some (compat := compat) HS.out hi hfr
      have hto : toM ms i = ms[i].to := by simp [toM, List.getD, hi]
      obtain ⟨b, o, rfl, _, hcell⟩ := (hA.below hb).at hi
      obtain ⟨E, d, c1, c2, c3, c4, c5⟩ := hcell i hi
      clear hcell hs
      have HR2 := Lib.hid (HR.out.trans (by rw [hfd]))
      clear hfd HR
      generalize hto2 : ms[i].to = to at *
      generalize ms[i].tag = tg at *
      clear hto2
      by_cases ht : tg.size = 0
      · have g0 : tg.toList = [] := str_nil ht
        obtain rfl : R = some to := by rw [HR2.out, if_pos (.inr ht), Option.map_some, hto]
        clear hto HR2
        go_wp2_with fail
        go_ret2
        exact ⟨E, d, rfl, c4, c5, hb⟩
      · have g0 : ¬ tg.toList = [] := str_cons ht
        have g1 : tg.toList.isEmpty = false := by simpa using g0
        cases compat with
        | true =>
          obtain rfl : R = some to := by rw [HR2.out, if_pos (.inl rfl), Option.map_some, hto]
          clear hto HR2
          go_wp2_with fail
          go_ret2
          exact ⟨E, d, rfl, c4, c5, hb⟩
        | false =>
          obtain rfl : R = none := by rw [HR2.out, if_neg (by simp [ht]), Option.map_none]
          clear hto HR2
          go_wp2_with fail
          go_ret2
          exact ⟨.none, 0, rfl, Nat.le_refl _, Sl.nil _ _, hb⟩

end Go.Proofs.YtjglanjfgbipmaaDoor
/- Maps whose keys are ints. -/
namespace Go.Proofs.YtjglanjfgbipmaaDoor
open Go.RowKit Go.Maps Go.WideMaps

/-- numbers that may be keys -/
def iok (z : Int) : Prop := (Lit.int .i64 z).wf = true
def ikey (z : Int) : Lit := .int .i64 z
theorem ikey_inj {y z : Int} (h : ikey y = ikey z) : y = z := by injection h
theorem law_int : Keyed Tryd.prog 3 := int_keyed Tryd.underlying3
theorem key_int {z : Int} (h : iok z) : keyOf Tryd.prog 3 (.int .i64 z) = some (ikey z) := keyOf_int_mk Tryd.underlying3 h
abbrev MapI (w : World) (b n : Nat) (f : Int → Option Value) : Prop := MapIs Tryd.prog 3 ikey iok w b n f
end Go.Proofs.YtjglanjfgbipmaaDoor
/- The memory of decompose.measure while it searches: the data, two flags, the map of sizes, the closure. -/
namespace Go.Proofs.YtjglanjfgbipmaaDoor
open Go.RowKit Go.Maps Go.WideMaps

/-- all blocks but the flags and the map are asq they were -/
def KeepD (s : Nat) (w w' : World) : Prop := w.heap.size ≤ w'.heap.size ∧ ∀ b, b < w.heap.size → b ≠ s + 1 → b ≠ s + 2 → b ≠ s + 3 → w'.heap[b]? = w.heap[b]?
section
variable {s : Nat} {a b c : World}
theorem KeepD.refl (s : Nat) (a : World) : KeepD s a a := ⟨Nat.le_refl _, fun _ _ _ _ _ => rfl⟩
theorem KeepD.trans (h : KeepD s a b) (k : KeepD s b c) : KeepD s a c := ⟨Nat.le_trans h.1 k.1, fun q hq h1 h2 h3 => (k.2 q (Nat.lt_of_lt_of_le hq h.1) h1 h2 h3).trans (h.2 q hq h1 h2 h3)⟩
theorem KeepD.of_below (h : Below a.heap.size a b) : KeepD s a b := ⟨h.size, fun q hq _ _ _ => h.block q hq⟩
theorem KeepD.of_grown {u : Nat} (h : a.grownBy b (some u)) (hu : u = s + 1 ∨ u = s + 2 ∨ u = s + 3) : KeepD s a b := ⟨h.size, fun q hq h1 h2 h3 => h.block q hq (fun e => by injection e with e; omega)⟩
end

/-- the memory of the search: s the first block -/
structure MS (A0 : Option Addr) (n0 k0 : Nat) (A1 : Option Addr) (n1 k1 : Nat) (A2 : Option Addr) (n2 k2 : Nat) (s : Nat) (w : World) (n : Nat) (mk : Int → Option Int) (cyc lng : Bool) : Prop where
  bN : Box w s 35 [.slice A0 n0 k0, .slice A1 n1 k1, .slice A2 n2 k2]
  bC : Box w (s + 1) 4 [.bool cyc]
  bL : Box w (s + 2) 4 [.bool lng]
  mp : MapI w (s + 3) n (fun c => (mk c).map (fun k => .int .i64 k))
  bM : Box w (s + 4) 100 [.map (some (s + 3))]
  bS : Box w (s + 5) 46 [.func (.func 55) #[] #[.pointer (some ⟨s, 0, none⟩), .pointer (some ⟨s + 4, 0, none⟩), .pointer (some ⟨s + 1, 0, none⟩), .pointer (some ⟨s + 5, 0, none⟩), .pointer (some ⟨s + 2, 0, none⟩)]]

section
variable {A0 : Option Addr} {n0 k0 : Nat} {A1 : Option Addr} {n1 k1 : Nat} {A2 : Option Addr} {n2 k2 : Nat} {s : Nat} {w w' : World} {n : Nat} {mk : Int → Option Int} {cyc lng : Bool}
theorem MS.below (h : MS A0 n0 k0 A1 n1 k1 A2 n2 k2 s w n mk cyc lng) (hb : Below w.heap.size w w') : MS A0 n0 k0 A1 n1 k1 A2 n2 k2 s w' n mk cyc lng :=
  ⟨h.bN.below hb h.bN.lt, h.bC.below hb h.bC.lt, h.bL.below hb h.bL.lt, h.mp.below hb, h.bM.below hb h.bM.lt, h.bS.below hb h.bS.lt⟩
theorem MS.setC (h : MS A0 n0 k0 A1 n1 k1 A2 n2 k2 s w n mk cyc lng) (x : Bool) : MS A0 n0 k0 A1 n1 k1 A2 n2 k2 s (w.setCell ⟨s + 1, 0, none⟩ (.bool x)) n mk x lng := by
  have hg := grown_set w ⟨s + 1, 0, none⟩ (.bool x)
  exact ⟨h.bN.grown hg (by simp), h.bC.set 0 _, h.bL.grown hg (by simp), h.mp.kept hg (by simp), h.bM.grown hg (by simp), h.bS.grown hg (by simp)⟩
theorem MS.setL (h : MS A0 n0 k0 A1 n1 k1 A2 n2 k2 s w n mk cyc lng) (x : Bool) : MS A0 n0 k0 A1 n1 k1 A2 n2 k2 s (w.setCell ⟨s + 2, 0, none⟩ (.bool x)) n mk cyc x := by
  have hg := grown_set w ⟨s + 2, 0, none⟩ (.bool x)
  exact ⟨h.bN.grown hg (by simp), h.bC.grown hg (by simp), h.bL.set 0 _, h.mp.kept hg (by simp), h.bM.grown hg (by simp), h.bS.grown hg (by simp)⟩
theorem MS.put (h : MS A0 n0 k0 A1 n1 k1 A2 n2 k2 s w n mk cyc lng) {m : Nat} {c k : Int} (hm : MapI w' (s + 3) m (fun y => if y = c then some (.int .i64 k) else (mk y).map (fun k => .int .i64 k))) (hg : w.grownBy w' (some (s + 3))) :
    MS A0 n0 k0 A1 n1 k1 A2 n2 k2 s w' m (putM mk c k) cyc lng := by
  refine ⟨h.bN.grown hg (by simp), h.bC.grown hg (by simp), h.bL.grown hg (by simp), hm.ext fun x _ => ?_, h.bM.grown hg (by simp), h.bS.grown hg (by simp)⟩
  unfold putM
  split <;> rfl
theorem MS.ints (h : MS A0 n0 k0 A1 n1 k1 A2 n2 k2 s w n mk cyc lng) (hk : KeepD s w w') {E : Option Addr} {zs : List Int} (hs : Ints w E zs) : Ints w' E zs := fun hne => by
  obtain ⟨q, o, rfl, hc⟩ := hs hne
  refine ⟨q, o, rfl, fun j u hu => ?_⟩
  have h1 := hc j u hu
  have hi : ∃ z, u = .int .i64 z := by
    rw [List.getElem?_map] at hu
    cases hz : zs[j]? with
    | none => rw [hz] at hu; cases hu
    | some z => rw [hz] at hu; injection hu with hu; exact ⟨z, hu.symm⟩
  obtain ⟨z, rfl⟩ := hi
  have flag : ∀ (B : Nat) (x : Bool), Box w B 4 [.bool x] → q ≠ B := fun B x hB e => by
    subst e
    unfold Box at hB
    generalize o + j = m at h1
    rcases m with _ | m
    · simp [World.cell?, hB] at h1
    · simp [World.cell?, hB] at h1
  have hq3 : q ≠ s + 3 := fun e => by rw [e, h.mp.nocell] at h1; cases h1
  exact (World.cell?_of_block (hk.2 q (World.block_lt_of_cell? w _ h1) (flag _ _ h.bC) (flag _ _ h.bL) hq3)).trans h1
end
end Go.Proofs.YtjglanjfgbipmaaDoor
/- The contract of decompose.measure$1: the size of what a number is replaced by, with marks. -/
namespace Go.Proofs.YtjglanjfgbipmaaDoor
open Go.RowKit Go.Maps Go.WideMaps

/-- all numbers are code points, no list is too long -/
def CodesOk (ms : List Mp) : Prop := ∀ i, (hi : i < ms.length) → (0 ≤ ms[i].frm ∧ ms[i].frm ≤ 1114111) ∧ ms[i].to.length ≤ 64 ∧ ∀ e ∈ ms[i].to, 0 ≤ e ∧ e ≤ 1114111
def hk (c : Int) : Nat := if 4 ≤ Hg.kind c then 1 else 0
def fsM (ms : List Mp) : List Int := ms.map Mp.frm
theorem hk_le (c : Int) : hk c ≤ 1 := by unfold hk; split <;> omega
theorem decomp_kids {c : Int} (h : 4 ≤ Hg.kind c) : (Hg.decomp c).length ≤ 3 ∧ ∀ e ∈ Hg.decomp c, (0 ≤ e ∧ e ≤ 1114111) ∧ hk e = 0 ∧ 1 ≤ Hg.kind e := by
  have h5 := (Hg.kind_range c).2
  have k1 : ∀ e : Int, 0x1100 ≤ e ∧ e ≤ 0x1112 → (0 ≤ e ∧ e ≤ 1114111) ∧ hk e = 0 ∧ 1 ≤ Hg.kind e := fun e he => ⟨by omega, by unfold hk; rw [Hg.kind1 he]; rfl, by rw [Hg.kind1 he]; omega⟩
  have k2 : ∀ e : Int, 0x1161 ≤ e ∧ e ≤ 0x1175 → (0 ≤ e ∧ e ≤ 1114111) ∧ hk e = 0 ∧ 1 ≤ Hg.kind e := fun e he => ⟨by omega, by unfold hk; rw [Hg.kind2 he]; rfl, by rw [Hg.kind2 he]; omega⟩
  have k3 : ∀ e : Int, 0x11A8 ≤ e ∧ e ≤ 0x11C2 → (0 ≤ e ∧ e ≤ 1114111) ∧ hk e = 0 ∧ 1 ≤ Hg.kind e := fun e he => ⟨by omega, by unfold hk; rw [Hg.kind3 he]; rfl, by rw [Hg.kind3 he]; omega⟩
  by_cases h4 : Hg.kind c = 4
  · obtain ⟨b1, b2, b3⟩ := kind_is4 h4
    rw [decomp_2 h4]
    refine ⟨by simp, fun e he => ?_⟩
    simp only [List.mem_cons, List.not_mem_nil, or_false] at he
    rcases he with rfl | rfl
    · exact k1 _ (by omega)
    · exact k2 _ (by omega)
  · have h4' : Hg.kind c = 5 := by omega
    obtain ⟨b1, b2, b3⟩ := kind_is5 h4'
    rw [decomp_3 h4']
    refine ⟨by simp, fun e he => ?_⟩
    simp only [List.mem_cons, List.not_mem_nil, or_false] at he
    rcases he with rfl | rfl | rfl
    · exact k1 _ (by omega)
    · exact k2 _ (by omega)
    · exact k3 _ (by omega)
theorem fndM_at {ms : List Mp} {b : Bool} {c : Int} {i : Nat} (h : fndM ms b c = some i) : ∃ hi : i < ms.length, ms[i].frm = c ∧ (b = true ∨ ms[i].tag.size = 0) := by
  unfold fndM at h
  rw [List.findIdx?_eq_some_iff_getElem] at h
  obtain ⟨hi, h1, _⟩ := h
  exact ⟨hi, by simpa using h1⟩
theorem onM_kids {ms : List Mp} {b : Bool} {c : Int} {to : List Int} (hc : CodesOk ms) (h : onM ms b c = some to) :
    to.length ≤ 64 ∧ (∀ e ∈ to, 0 ≤ e ∧ e ≤ 1114111) ∧ ((hk c = 1 ∧ to.length ≤ 3 ∧ ∀ e ∈ to, hk e = 0) ∨ (hk c = 0 ∧ c ∈ fsM ms)) := by
  unfold onM at h
  split at h
  · next h4 =>
    injection h with h
    subst h
    obtain ⟨h1, h2⟩ := decomp_kids h4
    exact ⟨by omega, fun e he => (h2 e he).1, .inl ⟨by unfold hk; rw [if_pos h4], h1, fun e he => (h2 e he).2.1⟩⟩
  · next h4 =>
    cases hf : fndM ms b c with
    | none => rw [hf] at h; cases h
    | some i =>
      rw [hf] at h
      injection h with h
      obtain ⟨hi, h1, _⟩ := fndM_at hf
      have ht : toM ms i = ms[i].to := by simp [toM, List.getD, hi]
      rw [ht] at h
      subst h
      obtain ⟨q1, q2, q3⟩ := hc i hi
      exact ⟨q2, q3, .inr ⟨by unfold hk; rw [if_neg h4], List.mem_map.2 ⟨ms[i], List.getElem_mem hi, h1⟩⟩⟩
theorem iok_code {c : Int} (h : 0 ≤ c ∧ c ≤ 1114111) : iok c := by
  unfold iok Lit.wf
  simp [IntKind.min, IntKind.max, IntKind.signed, IntKind.bits]
  omega
theorem zero_intM (w : World) : (zeroValue 3).run Tryd.prog w = .ok (.int .i64 0) w := by kernel_rfl

/-- what the search has found for c -/
structure SzPost (A0 : Option Addr) (n0 k0 : Nat) (A1 : Option Addr) (n1 k1 : Nat) (A2 : Option Addr) (n2 k2 : Nat) (s : Nat) (ms : List Mp) (c : Int) (w : World) (n : Nat) (mk : Int → Option Int) (cyc : Bool) (v : Int) (w' : World) (n' : Nat) (mk' : Int → Option Int) (cyc' lng' : Bool) : Prop where
  bd : 1 ≤ v ∧ v ≤ capE
  ext : DExt mk mk'
  inv : DInv (onM ms true) capE mxE mk' cyc' lng'
  mon : cyc = true → cyc' = true
  sz : cyc' = false → Sz (onM ms true) capE c v
  st : MS A0 n0 k0 A1 n1 k1 A2 n2 k2 s w' n' mk' cyc' lng'
  kp : KeepD s w w'
  bel : Below s w w'
  pot : n' + 200 * unmarked (fsM ms) mk' ≤ n + 200 * unmarked (fsM ms) mk + 2 * hk c
  mkd : ∀ to, onM ms true c = some to → to ≠ [] → ∃ k, mk' c = some k
end Go.Proofs.YtjglanjfgbipmaaDoor
/- What the search over all mappings has found; the mappings asq rounds see them. Plain. -/
namespace Go.Proofs.YtjglanjfgbipmaaDoor
open Go.RowKit

/-- no mapping is of a Hangul number -/
def NoHg (ms : List Mp) : Prop := ∀ i, (hi : i < ms.length) → Hg.kind ms[i].frm = 0
/-- whether replacing does not end, and whether it is too long, is found -/
structure MeasOk (ms : List Mp) (cyc lng : Bool) : Prop where
  cy : cyc = true → ∃ x, Path (onM ms true) x x
  ends : cyc = false → ∀ i, (hi : i < ms.length) → ∃ v, Sz (onM ms true) capE ms[i].frm v
  lg : cyc = false → (lng = true ↔ ∃ i, ∃ hi : i < ms.length, ∃ v, Sz (onM ms true) capE ms[i].frm v ∧ mxE < v)

theorem frmM_at {ms : List Mp} {i : Nat} (hi : i < ms.length) : frmM ms i = ms[i].frm := by simp [frmM, List.getD, hi]
theorem toM_at {ms : List Mp} {i : Nat} (hi : i < ms.length) : toM ms i = ms[i].to := by simp [toM, List.getD, hi]
theorem onM_frm {ms : List Mp} (hs : StF ms) (hh : NoHg ms) (compat : Bool) {i : Nat} (hi : i < ms.length) : onM ms compat ms[i].frm = if compat = true ∨ ms[i].tag.size = 0 then some ms[i].to else none := by
  unfold onM
  rw [if_neg (by rw [hh i hi]; omega), fndM_some hs hi rfl]
  split
  · rw [Option.map_some, toM_at hi]
  · rfl
theorem onM_none_kind {ms : List Mp} (hh : NoHg ms) (compat : Bool) {e : Int} (h1 : 1 ≤ Hg.kind e) (h2 : Hg.kind e < 4) : onM ms compat e = none := by
  unfold onM
  rw [if_neg (by omega), fndM_none, Option.map_none]
  intro i hi he
  have := hh i hi
  rw [he] at this
  omega
theorem capSum_ones (n : Nat) (h : (n : Int) ≤ capE) : capSum capE (List.replicate n 1) = n := by
  rw [capSum_eq (fun v hv => by rw [List.eq_of_mem_replicate hv]; omega) (by unfold capE; omega)]
  have : ∀ n : Nat, (List.replicate n (1 : Int)).sum = n := by
    intro n
    induction n with
    | zero => rfl
    | succ n ih => rw [List.replicate_succ, List.sum_cons, ih]; omega
  rw [this]
  omega
/-- what has no mapping -/
theorem Sz_no {ms : List Mp} (hh : NoHg ms) (compat : Bool) {e : Int} (h : fndM ms compat e = none) : Sz (onM ms compat) capE e (dlM e) := by
  by_cases h4 : 4 ≤ Hg.kind e
  · obtain ⟨d1, d2⟩ := decomp_kids h4
    have hon : onM ms compat e = some (Hg.decomp e) := if_pos h4
    have hne : Hg.decomp e ≠ [] := by
      have h5 := (Hg.kind_range e).2
      by_cases h44 : Hg.kind e = 4
      · rw [decomp_2 h44]; simp
      · rw [decomp_3 (by omega)]; simp
    have := Sz.node (on := onM ms compat) (cap := capE) (vs := List.replicate (Hg.decomp e).length 1) hon hne (by simp) (fun i h1 h2 => by
      rw [List.getElem_replicate]
      obtain ⟨_, g2, g3⟩ := d2 _ (List.getElem_mem h1)
      refine .leaf (.inl (onM_none_kind hh compat g3 ?_))
      unfold hk at g2
      split at g2
      · cases g2
      · omega)
    rw [capSum_ones _ (by unfold capE; omega)] at this
    exact this
  · have hd : dlM e = 1 := by unfold dlM; rw [decomp_no (by omega)]; rfl
    rw [hd]
    refine .leaf (.inl ?_)
    unfold onM
    rw [if_neg h4, h]
    rfl
theorem maps1 {ms : List Mp} (hs : StF ms) (hh : NoHg ms) (compat : Bool) : Maps1 ms.length (frmM ms) (toM ms) (fndM ms compat) dlM capE (onM ms compat) (skipM ms compat) := by
  refine ⟨by unfold capE; omega, fun i hi hk => ?_, fun i hi hk => ?_, fun e m h => ?_, fun e h => Sz_no hh compat h⟩
  · rw [frmM_at hi, onM_frm hs hh compat hi, toM_at hi, if_pos]
    unfold skipM at hk
    cases compat <;> simp_all [List.getD]
  · rw [frmM_at hi, onM_frm hs hh compat hi, if_neg]
    unfold skipM at hk
    cases compat <;> simp_all [List.getD]
  · obtain ⟨hi, h1, _⟩ := fndM_at h
    exact ⟨hi, by rw [frmM_at hi]; exact h1⟩
/-- what has a mark that is too great is a mapping's number -/
theorem long_frm {ms : List Mp} (hh : NoHg ms) {c v : Int} (h : Sz (onM ms true) capE c v) (hv : mxE < v) : ∃ i, ∃ hi : i < ms.length, ms[i].frm = c := by
  cases hf : fndM ms true c with
  | some i => obtain ⟨hi, h1, _⟩ := fndM_at hf; exact ⟨i, hi, h1⟩
  | none =>
    have h1 := h.func (Sz_no hh true hf)
    subst h1
    exfalso
    unfold dlM mxE at hv
    by_cases h4 : 4 ≤ Hg.kind c
    · have := (decomp_kids h4).1; omega
    · rw [decomp_no (by omega)] at hv; simp at hv
theorem MeasOk.of {ms : List Mp} {mk : Int → Option Int} {cyc lng : Bool} (hs : StF ms) (hh : NoHg ms) (h : DInv (onM ms true) capE mxE mk cyc lng) (hf : ∀ x, mk x ≠ some (-1)) (hm : ∀ i, (hi : i < ms.length) → ms[i].to ≠ [] → ∃ k, mk ms[i].frm = some k) : MeasOk ms cyc lng := by
  have hon := fun i (hi : i < ms.length) => (onM_frm hs hh true hi).trans (if_pos (.inl rfl))
  have hsz : cyc = false → ∀ i, (hi : i < ms.length) → ∃ v, Sz (onM ms true) capE ms[i].frm v ∧ (mk ms[i].frm = some v ∨ v = 1) := fun hc i hi => by
    by_cases ht : ms[i].to = []
    · exact ⟨1, .leaf (.inr (by rw [hon i hi, ht])), .inr rfl⟩
    · obtain ⟨k, hk⟩ := hm i hi ht
      exact ⟨k, h.fin hc _ k hk (fun e => hf _ (by rw [hk, e])), .inl hk⟩
  refine ⟨h.cy, fun hc i hi => ?_, fun hc => ⟨fun hl => ?_, ?_⟩⟩
  · obtain ⟨v, h1, _⟩ := hsz hc i hi; exact ⟨v, h1⟩
  · obtain ⟨c, k, h1, h2⟩ := h.lg1 hl
    have h3 := h.fin hc c k h1 (by unfold mxE at h2; omega)
    obtain ⟨i, hi, he⟩ := long_frm hh h3 h2
    subst he
    exact ⟨i, hi, k, h3, h2⟩
  · rintro ⟨i, hi, v, h1, h2⟩
    obtain ⟨v', g1, g2⟩ := hsz hc i hi
    have := h1.func g1
    subst this
    rcases g2 with g2 | g2
    · exact h.lg2 _ v g2 h2
    · unfold mxE at h2; omega
/-- replacing without tags gives not more -/
theorem Sz_le {ms : List Mp} (hs : StF ms) {c v : Int} (h : Sz (onM ms true) capE c v) : ∃ u, Sz (onM ms false) capE c u ∧ u ≤ v := by
  have hsub : ∀ c to, onM ms false c = some to → onM ms true c = some to := fun c to h => by
    unfold onM at h ⊢
    split
    · next h4 => rw [if_pos h4] at h; exact h
    · next h4 =>
      rw [if_neg h4] at h
      cases hf : fndM ms false c with
      | none => rw [hf] at h; cases h
      | some i =>
        obtain ⟨hi, h1, _⟩ := fndM_at hf
        rw [hf] at h
        rw [fndM_some hs hi h1, if_pos (.inl rfl)]
        exact h
  have hcap : (1 : Int) ≤ capE := by unfold capE; omega
  induction h with
  | @leaf c h =>
    refine ⟨1, .leaf ?_, by omega⟩
    cases hf : onM ms false c with
    | none => exact .inl rfl
    | some to =>
      right
      rcases h with h | h
      · rw [hsub c to hf] at h; cases h
      · rw [hsub c to hf] at h; exact h
  | @node c to vs h1 h2 h3 h4 ih =>
    cases hf : onM ms false c with
    | none => exact ⟨1, .leaf (.inl hf), (Sz.bd hcap (Sz.node h1 h2 h3 h4)).1⟩
    | some to' =>
      have := hsub c to' hf
      rw [h1] at this
      injection this with this
      subst this
      have hch : ∀ i : Nat, ∃ u : Int, ∀ (hi : i < to.length) (hv : i < vs.length), Sz (onM ms false) capE to[i] u ∧ u ≤ vs[i] := fun i => by
        by_cases hi : i < to.length
        · obtain ⟨u, g1, g2⟩ := ih i hi (by omega)
          exact ⟨u, fun _ _ => ⟨g1, g2⟩⟩
        · exact ⟨0, fun h => absurd h hi⟩
      refine ⟨capSum capE ((List.range to.length).map (fun i => (hch i).choose)), .node hf h2 (by simp) (fun i h1 h2 => ?_), ?_⟩
      · simp only [List.getElem_map, List.getElem_range]
        exact ((hch i).choose_spec h1 (by omega)).1
      · have hmono : ∀ (a b : List Int), a.length = b.length → (∀ i, (h1 : i < a.length) → (h2 : i < b.length) → a[i] ≤ b[i]) → ∀ s t : Int, s ≤ t → a.foldl (fun s v => min (s + v) capE) s ≤ b.foldl (fun s v => min (s + v) capE) t := by
          intro a
          induction a with
          | nil => intro b hl _ s t hst; cases b with | nil => exact hst | cons _ _ => simp at hl
          | cons x a iha =>
            intro b hl hle s t hst
            cases b with
            | nil => simp at hl
            | cons y b =>
              have h0 := hle 0 (by simp) (by simp)
              simp only [List.getElem_cons_zero] at h0
              refine iha b (by simpa using hl) (fun i g1 g2 => ?_) _ _ (by dsimp only; omega)
              have := hle (i + 1) (by simp; omega) (by simp; omega)
              simpa using this
        refine hmono _ _ (by simp [h3]) (fun i g1 g2 => ?_) 0 0 (by omega)
        simp only [List.getElem_map, List.getElem_range]
        simp at g1
        exact ((hch i).choose_spec g1 g2).2
end Go.Proofs.YtjglanjfgbipmaaDoor
/- Contracts of ordering.class$1, BinarySearchFunc at spans, and ordering.class: the class of a number in valid spans. -/
namespace Go.Proofs.YtjglanjfgbipmaaDoor
open Go.RowKit


/-- how a span compares with a number -/
def scmp (lo hi c : Int) : Int := if hi < c then -1 else if c < lo then 1 else 0

theorem classF_any (lo hi v c : Int) (w : World) : Calls Tryd.prog 37 #[.agg #[.int .i64 lo, .int .i64 hi, .int .i64 v], .int .i64 c] w (RetInt (scmp lo hi c) w) := by
  unfold scmp
  by_cases h1 : hi < c
  · rw [if_pos h1]
    go_enter Tryd.func37, Tryd.ntmps37
    go_wp2
    go_ret
    exact ⟨rfl, (Below.refl _ _).alloc (Nat.le_refl _) _⟩
  · rw [if_neg h1]
    by_cases h2 : c < lo
    · rw [if_pos h2]
      go_enter Tryd.func37, Tryd.ntmps37
      go_wp2
      go_ret
      exact ⟨rfl, (Below.refl _ _).alloc (Nat.le_refl _) _⟩
    · rw [if_neg h2]
      go_enter Tryd.func37, Tryd.ntmps37
      go_wp2
      go_ret
      exact ⟨rfl, (Below.refl _ _).alloc (Nat.le_refl _) _⟩

/-- what the search finds: the first span whose end is not below c -/
def Srch (ss : List Spn) (c : Int) (i : Nat) (found : Bool) : Prop :=
  i ≤ ss.length ∧ (∀ t, (ht : t < ss.length) → t < i → ss[t].hi < c) ∧ (∀ t, (ht : t < ss.length) → i ≤ t → c ≤ ss[t].hi) ∧ found = decide (∃ h : i < ss.length, ss[i].lo ≤ c)

def RetSrch (ss : List Spn) (c : Int) (w : World) (e : Ending) (w' : World) : Prop := ∃ (i : Nat) (f : Bool), e = .returned (.tuple #[.int .i64 i, .bool f]) ∧ Srch ss c i f ∧ Below w.heap.size w w'

set_option maxHeartbeats 1600000 in
theorem bsearch_any (A : Option Addr) (n k : Nat) (ss : List Spn) (c : Int) (w : World) (hA : Spans w A ss) (hn : ss.length = n) (hbig : n ≤ 1099511627776) (hasc : Asc ss) :
    Calls Tryd.prog 36 #[.slice A n k, .int .i64 c, .func (.func 37) #[] #[]] w (RetSrch ss c w) := by
  subst hn
  have HS := Lib.hid hasc; clear hasc
  go_enter Tryd.func36, Tryd.ntmps36
  go_wp2
  go_loopw [9, 10] (fun u v wr => ∃ i j : Nat, i ≤ j ∧ j ≤ ss.length ∧ u = .int .i64 i ∧ v = .int .i64 j ∧ (∀ t, (ht : t < ss.length) → t < i → ss[t].hi < c) ∧ (∀ t, (ht : t < ss.length) → j ≤ t → c ≤ ss[t].hi) ∧ Below w.heap.size w wr)
    (fun u v _ => (intOf v).toNat - (intOf u).toNat)
  case atStart => exact ⟨0, ss.length, Nat.zero_le _, Nat.le_refl _, rfl, rfl, fun t _ h => by omega, fun t h1 h2 => by omega, Below.refl _ _⟩
  case round =>
    obtain ⟨i, j, hij, hj, rfl, rfl, hlo, hhi, hbel⟩ := hrel
    have HLO := Lib.hid hlo; have HHI := Lib.hid hhi; clear hlo hhi
    by_cases hlt : i < j
    · obtain ⟨h, hh, h1, h2, h3⟩ : ∃ h : Nat, ((i : Int) + (j : Int)) / 2 = (h : Int) ∧ i ≤ h ∧ h < j ∧ h < ss.length := ⟨(i + j) / 2, by omega, by omega, by omega, by omega⟩
      obtain ⟨b, o, rfl, _, hcell⟩ := (hA.below hbel).at h3
      obtain ⟨c1, c2, c3⟩ := hcell h h3
      clear hcell
      have HO := Lib.hid (fun t (ht : t < ss.length) (hth : t < h) => (HS.out t h ht h3).2 hth)
      have HO2 := Lib.hid (fun t (ht : t < ss.length) (hth : h < t) => (HS.out h t h3 ht).2 hth)
      have HO3 := Lib.hid (fun t (ht : t < ss.length) => (HS.out t t ht ht).1)
      have HO4 := Lib.hid (HS.out h h h3 h3).1
      generalize hlo : ss[h].lo = lo at *
      generalize hhi : ss[h].hi = hi at *
      generalize ss[h].val = v at *
      have E1 := Lib.hid hlo; have E2 := Lib.hid hhi
      have C := Lib.hid (classF_any lo hi v c)
      clear hlo hhi
      by_cases hk : hi < c
      · have hsc : scmp lo hi c = -1 := by unfold scmp; rw [if_pos hk]
        rw [hsc] at C; clear hsc
        go_wp2_with (go_at_call 37; refine (C.out _).mono ?_; rintro e w1 ⟨rfl, hb1⟩)
        go_roundw
        case rel =>
          refine ⟨h + 1, j, by omega, hj, by go_num, rfl, fun t ht g => ?_, HHI.out, hbel.trans (hb1.mono hbel.size)⟩
          by_cases e : t = h
          · subst e; rw [E2.out]; exact hk
          · have a1 := HO.out t ht (by omega)
            have a2 := HO4.out
            omega
        case measure => simp [intOf]; omega
      · have hsc : 0 ≤ scmp lo hi c := by unfold scmp; rw [if_neg hk]; split <;> omega
        generalize scmp lo hi c = sc at *
        go_wp2_with (go_at_call 37; refine (C.out _).mono ?_; rintro e w1 ⟨rfl, hb1⟩)
        go_roundw
        case rel =>
          refine ⟨i, h, h1, by omega, rfl, rfl, HLO.out, fun t ht g => ?_, hbel.trans (hb1.mono hbel.size)⟩
          by_cases e : t = h
          · subst e; rw [E2.out]; omega
          · have a1 := HO2.out t ht (by omega)
            have a2 := HO3.out t ht
            omega
        case measure => simp [intOf]; omega
    · obtain rfl : i = j := by omega
      by_cases hend : i < ss.length
      · obtain ⟨b, o, rfl, _, hcell⟩ := (hA.below hbel).at hend
        obtain ⟨c1, c2, c3⟩ := hcell i hend
        clear hcell
        have hci := HHI.out i hend (Nat.le_refl _)
        have HF := Lib.hid (show decide (∃ h : i < ss.length, ss[i].lo ≤ c) = (scmp ss[i].lo ss[i].hi c == 0) by
          rw [Bool.eq_iff_iff]; simp only [decide_eq_true_eq, beq_iff_eq]; unfold scmp; rw [if_neg (by omega)]; split
          · constructor
            · rintro ⟨_, h⟩; omega
            · intro h; omega
          · exact ⟨fun _ => rfl, fun _ => ⟨hend, by omega⟩⟩)
        clear hci
        generalize ss[i].lo = lo at *
        generalize ss[i].hi = hi at *
        generalize ss[i].val = v at *
        have C := Lib.hid (classF_any lo hi v c)
        generalize scmp lo hi c = sc at *
        go_wp2_with (go_at_call 37; refine (C.out _).mono ?_; rintro e w1 ⟨rfl, hb1⟩)
        go_ret2
        refine ⟨i, _, rfl, ⟨hj, HLO.out, HHI.out, ?_⟩, hbel.trans (hb1.mono hbel.size)⟩
        exact HF.out.symm
      · go_wp2_with fail
        go_ret2
        refine ⟨i, _, rfl, ⟨hj, HLO.out, HHI.out, ?_⟩, hbel⟩
        simp [hend]

theorem Srch.cls {ss : List Spn} {c : Int} {i : Nat} {f : Bool} (h : Srch ss c i f) (hasc : Asc ss) : if f = true then ∃ hi : i < ss.length, Go.Proofs.YtjglanjfgbipmaaDoor.cls ss c = ss[i].val else Go.Proofs.YtjglanjfgbipmaaDoor.cls ss c = 0 := by
  obtain ⟨h1, h2, h3, h4⟩ := h
  by_cases e : ∃ g : i < ss.length, ss[i].lo ≤ c
  · rw [if_pos (by rw [h4]; simpa using e)]
    obtain ⟨g, hg⟩ := e
    exact ⟨g, cls_at ss c i g hasc hg (h3 i g (Nat.le_refl _))⟩
  · rw [if_neg (by rw [h4]; simpa using e)]
    refine cls_none ss c fun t ht hc => ?_
    by_cases e1 : t < i
    · have := h2 t ht e1; omega
    · by_cases e2 : t = i
      · subst e2; exact e ⟨ht, hc.1⟩
      · have hi : i < ss.length := by omega
        have a1 := (hasc i t hi ht).2 (by omega)
        have a2 := (hasc i i hi hi).1
        exact e ⟨hi, by omega⟩

set_option maxHeartbeats 400000 in
theorem class_any (A : Option Addr) (n k : Nat) (ss : List Spn) (c : Int) (w : World) (hA : Spans w A ss) (hn : ss.length = n) (hbig : n ≤ 1099511627776) (hasc : Asc ss) :
    Calls Tryd.prog 25 #[.slice A n k, .int .i64 c] w (RetInt (cls ss c) w) := by
  subst hn
  have C := Lib.hid (bsearch_any A ss.length k ss c w hA rfl hbig hasc)
  have HS := Lib.hid hasc
  clear hasc
  go_enter Tryd.func25, Tryd.ntmps25
  go_wp2_with fail
  refine C.out.mono ?_
  rintro e w1 ⟨i, f, rfl, hs, hb1⟩
  have h := hs.cls HS.out
  cases f with
  | true =>
    rw [if_pos rfl] at h
    obtain ⟨hi, hcls⟩ := h
    obtain ⟨b, o, rfl, _, hcell⟩ := (hA.below hb1).at hi
    obtain ⟨c1, c2, c3⟩ := hcell i hi
    have HC := Lib.hid hcls
    clear hcell hs hcls
    generalize ss[i].val = v at *
    go_wp2_with fail
    go_ret
    exact ⟨ret_int HC.out.symm, hb1⟩
  | false =>
    rw [if_neg (by simp)] at h
    have HC := Lib.hid h
    clear hs h
    go_wp2_with fail
    go_ret
    exact ⟨ret_int HC.out.symm, hb1⟩

end Go.Proofs.YtjglanjfgbipmaaDoor
