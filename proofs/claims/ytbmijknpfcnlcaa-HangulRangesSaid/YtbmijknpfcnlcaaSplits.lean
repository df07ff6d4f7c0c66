/- Contracts of hangul.Split and of the reference's Split: both return the ranges of the syllables of a text. -/
import Derived.Test.YtbmijknpfcnlcaaLens
import Derived.Outline
namespace Go.Proofs.Ytbmijknpfcnlcaa
open Go.RowKit

/-- the cells of ranges -/
def flat2 (rs : List (Nat × Nat)) : List Value := rs.flatMap fun r => [.int .i64 r.1, .int .i64 r.2]
theorem flat2_len (rs : List (Nat × Nat)) : (flat2 rs).length = rs.length * 2 := by
  induction rs with
  | nil => rfl
  | cons r rs ih => simp only [flat2, List.flatMap_cons, List.length_append, List.length_cons, List.length_nil] at *; omega
theorem flat2_snoc (rs : List (Nat × Nat)) (i j : Nat) : flat2 (rs ++ [(i, j)]) = flat2 rs ++ [.int .i64 i, .int .i64 j] := by simp [flat2]

/-- a slice of the ranges rs is returned; nothing that was there has changed -/
def RetRanges (rs : List (Nat × Nat)) (w : World) (e : Ending) (w' : World) : Prop := ∃ A c, e = .returned (.slice A rs.length c) ∧ rs.length ≤ c ∧ Sl w' A (flat2 rs) ∧ Below w.heap.size w w'

theorem info_range : (Try.prog.info? 34).map (fun i => (i.zero, i.size, i.bytes)) = some (some (.agg #[.int .i64 0, .int .i64 0]), 2, 16) := by kernel_rfl

set_option maxHeartbeats 800000 in
theorem refSplit_any (A : Option Addr) (n c : Nat) (l : List Int) (w : World) (hA : Ints w A l) (hn : l.length = n) (hnc : n ≤ c) (hb : n ≤ 1048576) :
    Calls Try.prog 19 #[.slice A n c] w (RetRanges (Hg.sp l 0) w) := by
  subst hn
  go_enter Try.func19, Try.ntmps19
  go_wp2
  go_loopw [3, 4] (fun v i wr => ∃ (k m d : Nat) (B : Option Addr) (rs : List (Nat × Nat)), m = rs.length ∧ i = .int .i64 k ∧ v = .slice B m d ∧ k ≤ l.length ∧ m ≤ k ∧ rs ++ Hg.sp l k = Hg.sp l 0 ∧
      wr.ownsRow w.heap.size 34 2 (.slice B m d) m (flat2 rs) ∧ Below w.heap.size w wr)
    (fun _ i _ => l.length - (intOf i).toNat)
  case atStart => exact ⟨0, 0, 0, none, [], rfl, rfl, rfl, Nat.zero_le _, Nat.le_refl _, rfl, World.ownsRow_nil _ _ _ _, Below.refl _ _⟩
  case round =>
    obtain ⟨k, m, d, B, rs, hm, rfl, rfl, hk, hmk, hsp, hown, hbel⟩ := hrel
    have HM := Lib.hid hm
    have HSP := Lib.hid hsp
    clear hm hsp
    by_cases hlt : k < l.length
    · obtain ⟨b, o, rfl, hc⟩ := hA.at hlt
      have hlen := Hg.plen_le (l.drop k)
      rw [List.length_drop] at hlen
      have HL := Lib.hid (fun (W : World) c' (hW : Below w.heap.size w W) => Part_any (some ⟨b, o + k, none⟩) (l.length - k) c' (l.drop k) W ((hA.below hW).cut k) (by rw [List.length_drop]) (by omega))
      by_cases hp : 0 < Hg.plen (l.drop k)
      · have HS := Lib.hid (Hg.sp_yes l k hlt hp)
        generalize Hg.plen (l.drop k) = p at *
        clear hc
        go_wp2_with (first
          | (go_at_call 23; refine (HL.out _ _ hbel).mono ?_; rintro e w1 ⟨rfl, hb1⟩; have hown1 := own_keep hown hb1; have hbel1 := hbel.trans (hb1.mono hbel.size); clear hb1 hown hbel)
          | (at_builtin; refine wpList_app _ _ 31 34 (.agg #[.int .i64 0, .int .i64 0]) 2 16 rfl rfl Try.underlying31 info_range rfl (by decide) (by decide) rfl (hown1.alloc _) rfl (Sl_new _ [_, _] _ rfl) rfl (oneCell_ints [_, _]) (by omega) (by have := hbel1.size; simp; omega) ?_; intro B2 d2 w2 hown2 hd2 hb2 _ _))
        go_roundw
        case rel =>
          refine ⟨k + p, m + 1, d2, B2, rs ++ [(k, k + p)], by simp [HM.out], by go_num, rfl, by omega, by omega, ?_, ?_, ?_⟩
          · rw [← HSP.out, HS.out]; simp
          · rw [flat2_snoc]; exact hown2
          · exact (hbel1.alloc hbel1.size _).trans hb2
        case measure => simp [intOf]; omega
      · have HS := Lib.hid (Hg.sp_no l k hlt (by omega))
        generalize Hg.plen (l.drop k) = p at *
        clear hc
        obtain rfl : p = 0 := by omega
        go_wp2_with (first
          | (go_at_call 23; refine (HL.out _ _ hbel).mono ?_; rintro e w1 ⟨rfl, hb1⟩; have hown1 := own_keep hown hb1; have hbel1 := hbel.trans (hb1.mono hbel.size); clear hb1 hown hbel))
        go_roundw
        case rel => exact ⟨k + 1, m, d, B, rs, HM.out, by go_num, rfl, by omega, by omega, by rw [← HSP.out, HS.out], hown1, hbel1⟩
        case measure => simp [intOf]; omega
    · have HS := Lib.hid (Hg.sp_end l k (by omega))
      go_wp2
      go_ret
      have hrs : rs = Hg.sp l 0 := by rw [← HSP.out, HS.out]; simp
      subst hrs
      obtain rfl := HM.out
      obtain ⟨_, _, hv, hd⟩ := own_form hown
      injection hv with _ _ hc
      exact ⟨B, d, rfl, by omega, Sl.of_own hown, hbel⟩

set_option maxHeartbeats 800000 in
theorem Split_any (A : Option Addr) (n c : Nat) (l : List Int) (w : World) (hA : Ints w A l) (hn : l.length = n) (hnc : n ≤ c) (hb : n ≤ 1048576) :
    Calls Try.prog 18 #[.slice A n c] w (RetRanges (Hg.sp l 0) w) := by
  subst hn
  go_enter Try.func18, Try.ntmps18
  go_wp2
  go_loopw [3, 4, 9] (fun v x i wr => ∃ (k m d nx : Nat) (B : Option Addr) (rs : List (Nat × Nat)), m = rs.length ∧ i = .int .i64 k ∧ x = .int .i64 nx ∧ v = .slice B m d ∧ k ≤ l.length ∧ nx ≤ l.length ∧ m ≤ k ∧ rs ++ Hg.sp l (max k nx) = Hg.sp l 0 ∧
      wr.ownsRow w.heap.size 34 2 (.slice B m d) m (flat2 rs) ∧ Below w.heap.size w wr)
    (fun _ _ i _ => l.length - (intOf i).toNat)
  case atStart => exact ⟨0, 0, 0, 0, none, [], rfl, rfl, rfl, rfl, Nat.zero_le _, Nat.zero_le _, Nat.le_refl _, rfl, World.ownsRow_nil _ _ _ _, Below.refl _ _⟩
  case round =>
    obtain ⟨k, m, d, nx, B, rs, hm, rfl, rfl, rfl, hk, hnx, hmk, hsp, hown, hbel⟩ := hrel
    have HM := Lib.hid hm
    by_cases hlt : k < l.length
    · by_cases hnk : k < nx
      · have HSP := Lib.hid (show rs ++ Hg.sp l (max (k + 1) nx) = Hg.sp l 0 by rw [← hsp]; congr 2; omega)
        clear hm hsp
        go_wp2
        go_roundw
        case rel => exact ⟨k + 1, m, d, nx, B, rs, HM.out, by go_num, rfl, rfl, by omega, by omega, by omega, HSP.out, hown, hbel⟩
        case measure => simp [intOf]; omega
      · rw [show max k nx = k by omega] at hsp
        have HSP := Lib.hid hsp
        clear hm hsp
        obtain ⟨b, o, rfl, hc⟩ := hA.at hlt
        have hlen := Hg.plen_le (l.drop k)
        rw [List.length_drop] at hlen
        have HL := Lib.hid (fun (W : World) c' (hW : Below w.heap.size w W) => length_any (some ⟨b, o + k, none⟩) (l.length - k) c' (l.drop k) W ((hA.below hW).cut k) (by rw [List.length_drop]) (by omega))
        by_cases hp : 0 < Hg.plen (l.drop k)
        · have HS := Lib.hid (Hg.sp_yes l k hlt hp)
          generalize Hg.plen (l.drop k) = p at *
          clear hc
          go_wp2_with (first
            | (go_at_call 22; refine (HL.out _ _ hbel).mono ?_; rintro e w1 ⟨rfl, hb1⟩; have hown1 := own_keep hown hb1; have hbel1 := hbel.trans (hb1.mono hbel.size); clear hb1 hown hbel)
            | (at_builtin; refine wpList_app _ _ 31 34 (.agg #[.int .i64 0, .int .i64 0]) 2 16 rfl rfl Try.underlying31 info_range rfl (by decide) (by decide) rfl (hown1.alloc _) rfl (Sl_new _ [_, _] _ rfl) rfl (oneCell_ints [_, _]) (by omega) (by have := hbel1.size; simp; omega) ?_; intro B2 d2 w2 hown2 hd2 hb2 _ _))
          go_roundw
          case rel =>
            refine ⟨k + 1, m + 1, d2, k + p, B2, rs ++ [(k, k + p)], by simp [HM.out], by go_num, by go_num, rfl, by omega, by omega, by omega, ?_, ?_, ?_⟩
            · rw [← HSP.out, HS.out, show max (k + 1) (k + p) = k + p by omega]; simp
            · rw [flat2_snoc]; exact hown2
            · exact (hbel1.alloc hbel1.size _).trans hb2
          case measure => simp [intOf]; omega
        · have HS := Lib.hid (Hg.sp_no l k hlt (by omega))
          generalize Hg.plen (l.drop k) = p at *
          clear hc
          obtain rfl : p = 0 := by omega
          go_wp2_with (first
            | (go_at_call 22; refine (HL.out _ _ hbel).mono ?_; rintro e w1 ⟨rfl, hb1⟩; have hown1 := own_keep hown hb1; have hbel1 := hbel.trans (hb1.mono hbel.size); clear hb1 hown hbel))
          go_roundw
          case rel => exact ⟨k + 1, m, d, nx, B, rs, HM.out, by go_num, rfl, rfl, by omega, by omega, by omega, by rw [← HSP.out, HS.out, show max (k + 1) nx = k + 1 by omega], hown1, hbel1⟩
          case measure => simp [intOf]; omega
    · have HS := Lib.hid (Hg.sp_end l (max k nx) (by omega))
      have HSP := Lib.hid hsp
      clear hm hsp
      go_wp2
      go_ret
      have hrs : rs = Hg.sp l 0 := by rw [← HSP.out, HS.out]; simp
      subst hrs
      obtain rfl := HM.out
      obtain ⟨_, _, hv, hd⟩ := own_form hown
      injection hv with _ _ hc
      exact ⟨B, d, rfl, by omega, Sl.of_own hown, hbel⟩

end Go.Proofs.Ytbmijknpfcnlcaa
