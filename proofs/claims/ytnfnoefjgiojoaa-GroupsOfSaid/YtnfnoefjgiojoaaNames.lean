/- The contract of the reference's Names. -/
import Derived.Test.YtnfnoefjgiojoaaBackPlain
namespace Go.Proofs.Ytnfnoefjgiojoaa
open Go.RowKit Go.Maps Go.WideMaps

theorem info_str : (Try.prog.info? 9).map (fun i => (i.zero, i.size, i.bytes)) = some (some (.string .empty), 1, 16) := by kernel_rfl
def RetStrs (l : List ByteArray) (w : World) (e : Ending) (w' : World) : Prop := ∃ A c, e = .returned (.slice A l.length c) ∧ l.length ≤ c ∧ Strs w' A l ∧ Below w.heap.size w w'

set_option maxRecDepth 100000 in
set_option maxHeartbeats 3200000 in
theorem Names_any (A : Option Addr) (n a : Nat) (gs : List Grp) (w : World) (hA : Grps w A gs) (hn : gs.length = n) (hb : n ≤ 1048576) :
    Calls Try.prog 22 #[.slice A n a] w (RetStrs (gnames gs) w) := by
  subst hn
  have HA := Lib.hid hA
  have HN := Lib.hid (show w.ownsRow w.heap.size 9 1 (.slice none 0 0) 0 ([] : List Value) from World.ownsRow_nil _ _ _ _)
  clear hA
  go_enter Try.func22, Try.ntmps22
  go_wp2_with fail
  go_loopw [3, 4] (fun v u wr => ∃ (i : Nat) (S : Option Addr) (k : Nat), i ≤ gs.length ∧ u = .int .i64 i ∧ v = .slice S i k ∧ wr.ownsRow w.heap.size 9 1 (.slice S i k) i ((nms gs i).map Value.string) ∧ Below w.heap.size w wr) (fun _ u _ => gs.length - (intOf u).toNat)
  case atStart => exact ⟨0, none, 0, Nat.zero_le _, rfl, rfl, HN.out, Below.refl _ _⟩
  case round =>
    obtain ⟨i, S, k, hi, rfl, rfl, hown, hbr⟩ := hrel
    have HOWN := Lib.hid hown
    clear hown HN
    by_cases hlt : i < gs.length
    · obtain ⟨b1, o1, rfl, hbl, hcell⟩ := (HA.out.below hbr).at hlt
      have c1 := (hcell i hlt).1
      have HS := Lib.hid (nms_succ hlt)
      have hii : (i : Int) < (gs.length : Int) := by omega
      clear hcell
      generalize gs[i].name = nm at *
      have Bp : Below wr.heap.size wr (wr.alloc (.cells #[.string nm] 9)) := (Below.refl _ _).alloc (Nat.le_refl _) _
      have HOP := Lib.hid (own_keep HOWN.out Bp)
      have szp : w.heap.size ≤ (wr.alloc (.cells #[.string nm] 9)).heap.size := Nat.le_trans hbr.size Bp.size
      have hb9 := hbr.trans (Bp.mono hbr.size)
      clear Bp
      go_wp2_with (at_builtin; refine wpList_app _ _ 26 9 (.string .empty) 1 16 rfl rfl Try.underlying26 info_str rfl (by decide) (by decide) rfl HOP.out rfl (Sl_new _ [.string nm] _ rfl) rfl (by intro u hu; simp at hu; rw [hu]; rfl) (by omega) szp ?_; intro A7 c7 w7 hown7 hc7 hb7 hgr7 hAA7; clear hgr7 hAA7; have HO7 := Lib.hid hown7; clear hown7)
      go_roundw
      case rel =>
        refine ⟨i + 1, A7, c7, by omega, by go_num, rfl, ?_, hb9.trans hb7⟩
        rw [HS.out, List.map_append]
        exact HO7.out
      case measure => simp [intOf]; omega
    · obtain rfl : i = gs.length := by omega
      have e1 : nms gs gs.length = gnames gs := nms_all
      have hl : (gnames gs).length = gs.length := by simp [gnames]
      go_wp2_with fail
      go_ret
      have ho := HOWN.out
      rw [e1] at ho
      obtain ⟨_, _, hv, hc⟩ := own_form ho
      injection hv with _ _ hv
      subst hv
      refine ⟨S, k, ?_, by rw [hl]; exact hc, Sl.of_own ho, hbr⟩
      rw [hl]; rfl

end Go.Proofs.Ytnfnoefjgiojoaa
