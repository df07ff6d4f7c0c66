/- Contracts of cmp.Compare at ints, slices.Clone at ints, and of the closure by which ordering.Sort compares. -/
import Derived.Test.YthagfcdleapooaaDoorClassB
import Derived.Test.YthagfcdleapooaaDoorSortFnE
import Derived.Test.YthagfcdleapooaaDoorCmp
import Derived.Deep.RegionWith
namespace Go.Proofs.YthagfcdleapooaaDoor
open Go.RowKit

theorem info_int : (Tryd.prog.info? 3).map (fun i => (i.zero, i.size, i.bytes)) = some (some (.int .i64 0), 1, 8) := by kernel_rfl

/-- a new slice of the ints zs is returned that the caller owns; nothing that was there has changed -/
def RetOwn (zs : List Int) (w : World) (e : Ending) (w' : World) : Prop := ∃ A c, e = .returned (.slice A zs.length c) ∧ w'.ownsRow w.heap.size 3 1 (.slice A zs.length c) zs.length (zs.map (Value.int .i64)) ∧ Below w.heap.size w w'

theorem Clone_any (A : Option Addr) (n k : Nat) (zs : List Int) (w : World) (hA : Ints w A zs) (hn : zs.length = n) (hb : n ≤ 1048576) :
    Calls Tryd.prog 38 #[.slice A n k] w (RetOwn zs w) := by
  subst hn
  cases A with
  | none =>
    have hz : zs = [] := by
      cases zs with
      | nil => rfl
      | cons z r => obtain ⟨b, o, h, _⟩ := hA (by simp); cases h
    subst hz
    have hnil := fun (W : World) n c => Lib.run_eql_slice_nil (P := Tryd.prog) W 27 3 none n c 0 0 Tryd.underlying27
    go_enter Tryd.func38, Tryd.ntmps38
    go_wp2
    go_ret
    exact ⟨none, 0, rfl, World.ownsRow_nil _ _ _ _, Below.refl _ _⟩
  | some a =>
    have hnil := fun (W : World) n c => Lib.run_eql_slice_nil (P := Tryd.prog) W 27 3 (some a) n c 0 0 Tryd.underlying27
    go_enter Tryd.func38, Tryd.ntmps38
    go_wp2_with (at_builtin; refine wpList_app _ _ 27 3 (.int .i64 0) 1 8 rfl rfl Tryd.underlying27 info_int rfl (by decide) (by decide) rfl (own_new [] 3 1 0 w.heap.size rfl rfl (Nat.le_refl _) (by omega)) rfl (Sl.alloc hA _) (by simp) (oneCell_ints _) (by omega) (by simp) ?_; intro A1 c1 w1 hown1 hc1 hb1 _ _; simp only [Nat.zero_add, List.nil_append] at hown1 hc1)
    go_ret
    exact ⟨A1, c1, rfl, hown1, ((Below.refl _ _).alloc (Nat.le_refl _) _).trans hb1⟩

set_option maxHeartbeats 1000000 in
theorem sort1_any (B : Nat) (A' : Option Addr) (ns ks : Nat) (ss : List Spn) (x y : Int) (W : World) (hc : W.cell? ⟨B, 0, none⟩ = some (.slice A' ns ks)) (hS : Spans W A' ss) (hns : ss.length = ns) (hb2 : ns ≤ 1099511627776) (hasc : Asc ss) :
    Calls Tryd.prog 40 #[.int .i64 x, .int .i64 y, .pointer (some ⟨B, 0, none⟩)] W (RetCmp (cls ss x < cls ss y) W) := by
  have HA := Lib.hid hasc; clear hasc
  subst hns
  have hlt : B < W.heap.size := World.block_lt_of_cell? W _ hc
  have hSd : Spans W.drew A' ss := hS
  go_enter Tryd.func40, Tryd.ntmps40
  go_wp2
  go_region_with (first
    | (go_at_call 41; (with_reducible refine (cmpCompare_any _ _ _).mono ?_); rintro e w' ⟨rfl, rfl⟩)
    | (go_at_call 36; (with_reducible refine (class_any A' ss.length ks ss _ _ hS1 rfl hb2 HA.out).mono ?_); rintro e w2 ⟨rfl, hb2'⟩; clear hS1)
    | (go_at_call 36; (with_reducible refine (class_any A' ss.length ks ss _ _ hSd rfl hb2 HA.out).mono ?_); rintro e w1 ⟨rfl, hb1⟩; have hc1 : w1.cell? ⟨B, 0, none⟩ = some (.slice A' ss.length ks) := (hb1.cell (p := ⟨B, 0, none⟩) hlt).trans hc; have hS1 : Spans w1 A' ss := Spans.below (w := W.drew) hSd hb1))
  all_goals
    go_wp2
    go_ret
    refine ⟨_, rfl, ?_, ((Below.drew (Below.refl _ W)).trans hb1).trans (hb2'.mono hb1.size)⟩
    unfold cmpI
    split
    · simp [*]
    · split <;> simp [*]

theorem cmps_of {b B : Nat} {A' : Option Addr} {ns ks : Nat} {ss : List Spn} {w : World} (hc : w.cell? ⟨B, 0, none⟩ = some (.slice A' ns ks)) (hS : Spans w A' ss) (hns : ss.length = ns) (hb2 : ns ≤ 1099511627776) (hasc : Asc ss)
    (hB : B ≠ b) (hA : ss ≠ [] → ∀ o, A' ≠ some ⟨b, o, none⟩) : Cmps b B w (cls ss) := by
  intro W hg x y
  have hcell : ∀ p : Addr, p.block < w.heap.size → p.block ≠ b → W.cell? p = w.cell? p := fun p h1 h2 => World.cell?_of_block (w := w) (hg.block p.block h1 (fun e => h2 (by injection e)))
  refine sort1_any B A' ns ks ss x y W ?_ ?_ hns hb2 hasc
  · rw [hcell _ (World.block_lt_of_cell? w _ hc) hB]; exact hc
  · intro hne
    obtain ⟨b', o', rfl, hcs⟩ := hS hne
    refine ⟨b', o', rfl, fun j u hu => ?_⟩
    have h1 := hcs j u hu
    rw [hcell _ (World.block_lt_of_cell? w _ h1) (by rintro rfl; exact hA (by rintro rfl; exact hne rfl) o' rfl)]
    exact h1

end Go.Proofs.YthagfcdleapooaaDoor
