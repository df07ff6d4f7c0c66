/- The contracts of slices.Clone at elements and at ints: a row that the caller owns. -/
import Derived.Test.YtpamkbbmbeeheaaColl
import Derived.WalkSpells
namespace Go.Proofs.Ytpamkbbmbeeheaa
open Go.RowKit Go.Maps Go.WideMaps

theorem info_int : (Try.prog.info? 3).map (fun i => (i.zero, i.size, i.bytes)) = some (some (.int .i64 0), 1, 8) := by kernel_rfl
theorem oneCell_elts (es : List Elt) : ∀ u ∈ flatK Elt.cells es, u.oneCell' = true := by
  intro u hu
  obtain ⟨g, _, hg⟩ := List.mem_flatMap.1 hu
  simp only [Elt.cells, List.mem_cons, List.not_mem_nil, or_false] at hg
  rcases hg with rfl | rfl | rfl | rfl <;> rfl

def RetOwnI (zs : List Int) (w : World) (e : Ending) (w' : World) : Prop := ∃ A c, e = .returned (.slice A zs.length c) ∧ w'.ownsRow w.heap.size 3 1 (.slice A zs.length c) zs.length (zs.map (Value.int .i64)) ∧ Below w.heap.size w w'

theorem cloneI_any (A : Option Addr) (n k : Nat) (gs : List Int) (w : World) (hA : Ints w A gs) (hn : gs.length = n) (hb : n ≤ 1048576) :
    Calls Try.prog 53 #[.slice A n k] w (RetOwnI gs w) := by
  subst hn
  cases A with
  | none =>
    have hz : gs = [] := by
      cases gs with
      | nil => rfl
      | cons z r => obtain ⟨b, o, h, _⟩ := hA.at (k := 0) (by simp); cases h
    subst hz
    have hnil := fun (W : World) n c => Lib.run_eql_slice_nil (P := Try.prog) W 32 3 none n c 0 0 Try.underlying32
    go_enter Try.func53, Try.ntmps53
    go_wp2
    go_ret
    exact ⟨none, 0, rfl, World.ownsRow_nil _ _ _ _, Below.refl _ _⟩
  | some a =>
    have hnil := fun (W : World) n c => Lib.run_eql_slice_nil (P := Try.prog) W 32 3 (some a) n c 0 0 Try.underlying32
    go_enter Try.func53, Try.ntmps53
    go_wp2_with (at_builtin; refine wpList_app _ _ 32 3 (.int .i64 0) 1 8 rfl rfl Try.underlying32 info_int rfl (by decide) (by decide) rfl (own_new [] 3 1 0 w.heap.size rfl rfl (Nat.le_refl _) (by omega)) rfl (Sl.alloc hA _) (by simp) (oneCell_ints _) (by omega) (by simp) ?_; intro A1 c1 w1 hown1 hc1 hb1 _ _; simp only [Nat.zero_add, List.nil_append] at hown1 hc1)
    go_ret
    exact ⟨A1, c1, rfl, hown1, ((Below.refl _ _).alloc (Nat.le_refl _) _).trans hb1⟩

end Go.Proofs.Ytpamkbbmbeeheaa
