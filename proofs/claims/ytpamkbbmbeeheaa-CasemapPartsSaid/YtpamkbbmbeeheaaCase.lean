/- The data of case mapping: how it lies in memory, its first error; contracts of the reference's tagged and of casemap.Check. Written by gen_case.py. -/
import Derived.Test.YtpamkbbmbeeheaaSetF
namespace Go.Proofs.Ytpamkbbmbeeheaa
open Go.RowKit Go.Maps Go.WideMaps

/-- the data of case mapping -/
structure Cse where
  lower : List Mp
  upper : List Mp
  title : List Mp
  fold : List Mp
  cased : List Rg
  ign : List Rg
def MpsV (w : World) (v : Value) (ms : List Mp) : Prop := ∃ A c, v = .slice A ms.length c ∧ ms.length ≤ c ∧ Mps w A ms
def RgsV (w : World) (v : Value) (rs : List Rg) : Prop := ∃ A c, v = .slice A rs.length c ∧ rs.length ≤ c ∧ Rgs w A rs
theorem MpsV.below {w w' : World} {v : Value} {ms : List Mp} (h : MpsV w v ms) (hb : Below w.heap.size w w') : MpsV w' v ms := by
  obtain ⟨A, c, h1, h2, h3⟩ := h
  exact ⟨A, c, h1, h2, h3.below hb⟩
theorem RgsV.below {w w' : World} {v : Value} {rs : List Rg} (h : RgsV w v rs) (hb : Below w.heap.size w w') : RgsV w' v rs := by
  obtain ⟨A, c, h1, h2, h3⟩ := h
  exact ⟨A, c, h1, h2, h3.below hb⟩
structure CaseAt (w : World) (v0 v1 v2 v3 v4 v5 : Value) (C : Cse) : Prop where
  lower : MpsV w v0 C.lower
  upper : MpsV w v1 C.upper
  title : MpsV w v2 C.title
  fold : MpsV w v3 C.fold
  cased : RgsV w v4 C.cased
  ign : RgsV w v5 C.ign
theorem CaseAt.below {w w' : World} {v0 v1 v2 v3 v4 v5 : Value} {C : Cse} (h : CaseAt w v0 v1 v2 v3 v4 v5 C) (hb : Below w.heap.size w w') : CaseAt w' v0 v1 v2 v3 v4 v5 C :=
  ⟨h.lower.below hb, h.upper.below hb, h.title.below hb, h.fold.below hb, h.cased.below hb, h.ign.below hb⟩
structure CaseSz (C : Cse) : Prop where
  lower : MpsSz C.lower
  upper : MpsSz C.upper
  title : MpsSz C.title
  fold : MpsSz C.fold
  cased : C.cased.length ≤ 12
  ign : C.ign.length ≤ 12
def finalS : ByteArray := ⟨#[102, 105, 110, 97, 108]⟩
/-- a tag other than the empty one and the given one -/
def tagN (tag : ByteArray) (m : Mp) : Bool := decide (¬ m.tag.size = 0) && decide (¬ m.tag = tag)
def taggedL (ms : List Mp) (tag : ByteArray) : Bool := ms.any (tagN tag)
def caseErr (C : Cse) : Int :=
  if mapErr C.lower ≠ 0 then mapErr C.lower else if mapErr C.upper ≠ 0 then mapErr C.upper else if mapErr C.title ≠ 0 then mapErr C.title else if mapErr C.fold ≠ 0 then mapErr C.fold
  else if taggedL C.lower finalS = true ∨ taggedL C.upper .empty = true ∨ taggedL C.title .empty = true ∨ taggedL C.fold .empty = true then 6
  else if setOk C.cased = false ∨ setOk C.ign = false then 11 else 0

theorem empty_of {s : ByteArray} (h : s.size = 0) : s = .empty := str_inj (by rw [str_nil h, str_nil (s := .empty) rfl])
theorem tagN_0 {tag : ByteArray} {m : Mp} (h : m.tag.size = 0) : tagN tag m = false := by unfold tagN; simp [h]
theorem tagN_same {tag : ByteArray} {m : Mp} (h : m.tag = tag) : tagN tag m = false := by unfold tagN; simp [h]
theorem tagN_other {tag : ByteArray} {m : Mp} (h0 : ¬ m.tag.size = 0) (h : ¬ m.tag = tag) : tagN tag m = true := by unfold tagN; simp [h0, h]
theorem ne_empty {s : ByteArray} (h : ¬ s.size = 0) : ¬ s = .empty := fun e => h (by rw [e]; rfl)

set_option maxRecDepth 100000 in
set_option maxHeartbeats 3200000 in
theorem tagged_any (A : Option Addr) (n a : Nat) (ms : List Mp) (tag : ByteArray) (w : World) (hA : Mps w A ms) (hn : ms.length = n) (hz : MpsSz ms) :
    Calls Try.prog 35 #[.slice A n a, .string tag] w (fun e w' => e = .returned (.bool (taggedL ms tag)) ∧ w = w') := by
  subst hn
  have HA := Lib.hid hA
  have hnz := hz.n
  have T1 := Lib.hid (fun k (hk : k < ms.length) (h : tagN tag ms[k] = true) => show taggedL ms tag = true from anyT hk h)
  have T0 := Lib.hid (fun (h : ∀ t, (ht : t < ms.length) → tagN tag ms[t] = false) => show taggedL ms tag = false from anyF h)
  generalize taggedL ms tag = R at *
  clear hA hz
  go_enter Try.func35, Try.ntmps35
  go_wp2_with fail
  go_loop [5] (fun u => ∃ i : Nat, i ≤ ms.length ∧ u = .int .i64 i ∧ (∀ t, (ht : t < ms.length) → t < i → tagN tag ms[t] = false)) (fun u => ms.length - (intOf u).toNat)
  case atStart => exact ⟨0, Nat.zero_le _, rfl, fun t _ h => by omega⟩
  case round =>
    obtain ⟨i, hi, rfl, hno⟩ := hrel
    have HNO := Lib.hid hno
    clear hno
    by_cases hlt : i < ms.length
    · obtain ⟨b1, o1, rfl, hbl, hcell⟩ := HA.out.at hlt
      obtain ⟨C, cc, c0, c1, c2, hcc, hC⟩ := hcell i hlt
      have HY := Lib.hid (fun h => T1.out i hlt h)
      have HN := Lib.hid (fun h => all_up (P := fun m : Mp => tagN tag m = false) hlt HNO.out h)
      clear hcell hC
      generalize ms[i] = mi at *
      have N0 := Lib.hid (tagN_0 (tag := tag) (m := mi))
      have N1 := Lib.hid (tagN_same (tag := tag) (m := mi))
      have N2 := Lib.hid (tagN_other (tag := tag) (m := mi))
      generalize tagN tag mi = tb at *
      obtain ⟨mf, mt, mg⟩ := mi
      dsimp only at *
      by_cases hg : mg.size = 0
      · have g0 : mg.toList = [] := str_nil hg
        have HQ := Lib.hid (HN.out (N0.out hg))
        clear N0 N1 N2 HY HN
        go_wp2_with fail
        go_round
        case rel => exact ⟨i + 1, by omega, by go_num, HQ.out⟩
        case measure => simp [intOf]; omega
      · have g0 : ¬ mg.toList = [] := str_cons hg
        have g1 : mg.toList.isEmpty = false := by simpa using g0
        by_cases he : mg = tag
        · have q1 := str_eqT he
          have HQ := Lib.hid (HN.out (N1.out he))
          clear N0 N1 N2 HY HN he
          go_wp2_with fail
          go_round
          case rel => exact ⟨i + 1, by omega, by go_num, HQ.out⟩
          case measure => simp [intOf]; omega
        · have q1 := str_eqF he
          obtain rfl := HY.out (N2.out hg he)
          clear N0 N1 N2 HY HN he
          go_wp2_with fail
          go_ret
          exact ⟨rfl, rfl⟩
    · obtain rfl := T0.out (fun t ht => HNO.out t ht (by omega))
      go_wp2_with fail
      go_ret
      exact ⟨rfl, rfl⟩

theorem idx4 (x y z u : Value) (W : World) : (Instr.index 51 (.agg #[x, y, z, u]) (.int .i64 0)).run Try.prog W = .ok x W ∧ (Instr.index 51 (.agg #[x, y, z, u]) (.int .i64 1)).run Try.prog W = .ok y W ∧ (Instr.index 51 (.agg #[x, y, z, u]) (.int .i64 2)).run Try.prog W = .ok z W ∧ (Instr.index 51 (.agg #[x, y, z, u]) (.int .i64 3)).run Try.prog W = .ok u W := ⟨by kernel_rfl, by kernel_rfl, by kernel_rfl, by kernel_rfl⟩

end Go.Proofs.Ytpamkbbmbeeheaa
