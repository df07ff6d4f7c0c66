/- The chapter's example: alive is true. Written by gen_casev.py. -/
import Derived.Test.YtpamkbbmbeeheaaCaseS
import Derived.Test.YtpamkbbmbeeheaaCompare
namespace Go.Proofs.Ytpamkbbmbeeheaa
open Go.RowKit Go.Maps Go.WideMaps

def cL : Cse := ⟨[⟨931, [963], .empty⟩, ⟨931, [962], finalS⟩], [], [], [], [⟨913, 937⟩], []⟩
theorem cL_d : caseD cL = cL := caseD_ok (by kernel_rfl)
theorem cL1 : lowL (caseD cL) [913, 931] = [913, 962] := by rw [cL_d]; kernel_rfl
theorem cL2 : lowL (caseD cL) [931] = [963] := by rw [cL_d]; kernel_rfl
theorem cL3 : finalB (caseD cL) [913, 931] 1 = true := by rw [cL_d]; kernel_rfl
theorem cL_sz : CaseSz cL := smallC_sz (by kernel_rfl)
theorem cL_maps (w : World) (p q r : Nat) (h0 : Ints w (some ⟨p, 0, none⟩) [963]) (h1 : Ints w (some ⟨q, 0, none⟩) [962])
    (h2 : Sl w (some ⟨r, 0, none⟩) [.int .i64 931, .slice (some ⟨p, 0, none⟩) 1 1, .string ⟨#[]⟩, .int .i64 931, .slice (some ⟨q, 0, none⟩) 1 1, .string ⟨#[102, 105, 110, 97, 108]⟩]) : Mps w (some ⟨r, 0, none⟩) cL.lower := by
  refine ⟨[.slice (some ⟨p, 0, none⟩) 1 1, .slice (some ⟨q, 0, none⟩) 1 1], rfl, h2, fun i hi hv => ?_⟩
  match i, hi, hv with
  | 0, _, _ => exact ⟨_, 1, rfl, Nat.le_refl _, h0⟩
  | 1, _, _ => exact ⟨_, 1, rfl, Nat.le_refl _, h1⟩
theorem iok_small {z : Int} (h1 : -9223372036854775808 ≤ z) (h2 : z ≤ 9223372036854775807) : iok z := wf_small h1 h2
theorem iok_cons {t : List Int} (h : ∀ z ∈ t, -9223372036854775808 ≤ z ∧ z ≤ 9223372036854775807) : ∀ z ∈ t, iok z := fun z hz => iok_small (h z hz).1 (h z hz).2

theorem Equal_same (A B : Option Addr) (n c d : Nat) (l : List Int) (w : World) (hA : Ints w A l) (hB : Ints w B l) (hn : l.length = n) (hz : n ≤ 9223372036854775807) :
    Calls Try.prog 19 #[.slice A n c, .slice B n d] w fun e w' => e = .returned (.bool true) ∧ Qt w w' := by
  have := Equal_any A B n n c d l l w hA hB hn hn hz hz
  rw [decide_eq_true rfl] at this
  exact this
set_option maxRecDepth 100000 in
set_option maxHeartbeats 6400000 in
theorem alive_any (w : World) : Calls Try.prog 15 #[] w (RetTrue w) := by
  have B5 : Below w.heap.size w (((((w.alloc (.cells #[.int .i64 963] 3)).alloc (.cells #[.int .i64 962] 3)).alloc (.cells #[.int .i64 931, .slice (some ⟨w.heap.size, 0, none⟩) 1 1, .string ⟨#[]⟩, .int .i64 931, .slice (some ⟨w.heap.size + 1, 0, none⟩) 1 1, .string ⟨#[102, 105, 110, 97, 108]⟩] 38)).alloc (.cells #[.int .i64 913, .int .i64 937] 48)).alloc (.cells #[.slice (some ⟨w.heap.size + 1 + 1, 0, none⟩) 2 2, .slice none 0 0, .slice none 0 0, .slice none 0 0, .slice (some ⟨w.heap.size + 1 + 1 + 1, 0, none⟩) 1 1, .slice none 0 0] 27)) := (((((Below.refl _ _).alloc (Nat.le_refl _) _).alloc (by simp) _).alloc (by simp; omega) _).alloc (by simp; omega) _).alloc (by simp; omega) _
  have s5 : (((((w.alloc (.cells #[.int .i64 963] 3)).alloc (.cells #[.int .i64 962] 3)).alloc (.cells #[.int .i64 931, .slice (some ⟨w.heap.size, 0, none⟩) 1 1, .string ⟨#[]⟩, .int .i64 931, .slice (some ⟨w.heap.size + 1, 0, none⟩) 1 1, .string ⟨#[102, 105, 110, 97, 108]⟩] 38)).alloc (.cells #[.int .i64 913, .int .i64 937] 48)).alloc (.cells #[.slice (some ⟨w.heap.size + 1 + 1, 0, none⟩) 2 2, .slice none 0 0, .slice none 0 0, .slice none 0 0, .slice (some ⟨w.heap.size + 1 + 1 + 1, 0, none⟩) 1 1, .slice none 0 0] 27)).heap.size = w.heap.size + 1 + 1 + 1 + 1 + 1 := by simp
  have X5 : Box (((((w.alloc (.cells #[.int .i64 963] 3)).alloc (.cells #[.int .i64 962] 3)).alloc (.cells #[.int .i64 931, .slice (some ⟨w.heap.size, 0, none⟩) 1 1, .string ⟨#[]⟩, .int .i64 931, .slice (some ⟨w.heap.size + 1, 0, none⟩) 1 1, .string ⟨#[102, 105, 110, 97, 108]⟩] 38)).alloc (.cells #[.int .i64 913, .int .i64 937] 48)).alloc (.cells #[.slice (some ⟨w.heap.size + 1 + 1, 0, none⟩) 2 2, .slice none 0 0, .slice none 0 0, .slice none 0 0, .slice (some ⟨w.heap.size + 1 + 1 + 1, 0, none⟩) 1 1, .slice none 0 0] 27)) (w.heap.size + 1 + 1 + 1 + 1) 27 [.slice (some ⟨w.heap.size + 1 + 1, 0, none⟩) 2 2, .slice none 0 0, .slice none 0 0, .slice none 0 0, .slice (some ⟨w.heap.size + 1 + 1 + 1, 0, none⟩) 1 1, .slice none 0 0] := Box.new _ 27 [.slice (some ⟨w.heap.size + 1 + 1, 0, none⟩) 2 2, .slice none 0 0, .slice none 0 0, .slice none 0 0, .slice (some ⟨w.heap.size + 1 + 1 + 1, 0, none⟩) 1 1, .slice none 0 0] (by simp)
  have I0 := (((((Ints_new w [963] 3 rfl).below ((Below.refl _ _).alloc (Nat.le_refl _) _)).below (w' := (((w.alloc (.cells #[.int .i64 963] 3)).alloc (.cells #[.int .i64 962] 3)).alloc (.cells #[.int .i64 931, .slice (some ⟨w.heap.size, 0, none⟩) 1 1, .string ⟨#[]⟩, .int .i64 931, .slice (some ⟨w.heap.size + 1, 0, none⟩) 1 1, .string ⟨#[102, 105, 110, 97, 108]⟩] 38))) ((Below.refl _ _).alloc (Nat.le_refl _) _)).below (w' := ((((w.alloc (.cells #[.int .i64 963] 3)).alloc (.cells #[.int .i64 962] 3)).alloc (.cells #[.int .i64 931, .slice (some ⟨w.heap.size, 0, none⟩) 1 1, .string ⟨#[]⟩, .int .i64 931, .slice (some ⟨w.heap.size + 1, 0, none⟩) 1 1, .string ⟨#[102, 105, 110, 97, 108]⟩] 38)).alloc (.cells #[.int .i64 913, .int .i64 937] 48))) ((Below.refl _ _).alloc (Nat.le_refl _) _)).below (w' := (((((w.alloc (.cells #[.int .i64 963] 3)).alloc (.cells #[.int .i64 962] 3)).alloc (.cells #[.int .i64 931, .slice (some ⟨w.heap.size, 0, none⟩) 1 1, .string ⟨#[]⟩, .int .i64 931, .slice (some ⟨w.heap.size + 1, 0, none⟩) 1 1, .string ⟨#[102, 105, 110, 97, 108]⟩] 38)).alloc (.cells #[.int .i64 913, .int .i64 937] 48)).alloc (.cells #[.slice (some ⟨w.heap.size + 1 + 1, 0, none⟩) 2 2, .slice none 0 0, .slice none 0 0, .slice none 0 0, .slice (some ⟨w.heap.size + 1 + 1 + 1, 0, none⟩) 1 1, .slice none 0 0] 27))) ((Below.refl _ _).alloc (Nat.le_refl _) _))
  have I1 := ((((Ints_new (w.alloc (.cells #[.int .i64 963] 3)) [962] 3 (B := w.heap.size + 1) (by simp)).below (w' := (((w.alloc (.cells #[.int .i64 963] 3)).alloc (.cells #[.int .i64 962] 3)).alloc (.cells #[.int .i64 931, .slice (some ⟨w.heap.size, 0, none⟩) 1 1, .string ⟨#[]⟩, .int .i64 931, .slice (some ⟨w.heap.size + 1, 0, none⟩) 1 1, .string ⟨#[102, 105, 110, 97, 108]⟩] 38))) ((Below.refl _ _).alloc (Nat.le_refl _) _)).below (w' := ((((w.alloc (.cells #[.int .i64 963] 3)).alloc (.cells #[.int .i64 962] 3)).alloc (.cells #[.int .i64 931, .slice (some ⟨w.heap.size, 0, none⟩) 1 1, .string ⟨#[]⟩, .int .i64 931, .slice (some ⟨w.heap.size + 1, 0, none⟩) 1 1, .string ⟨#[102, 105, 110, 97, 108]⟩] 38)).alloc (.cells #[.int .i64 913, .int .i64 937] 48))) ((Below.refl _ _).alloc (Nat.le_refl _) _)).below (w' := (((((w.alloc (.cells #[.int .i64 963] 3)).alloc (.cells #[.int .i64 962] 3)).alloc (.cells #[.int .i64 931, .slice (some ⟨w.heap.size, 0, none⟩) 1 1, .string ⟨#[]⟩, .int .i64 931, .slice (some ⟨w.heap.size + 1, 0, none⟩) 1 1, .string ⟨#[102, 105, 110, 97, 108]⟩] 38)).alloc (.cells #[.int .i64 913, .int .i64 937] 48)).alloc (.cells #[.slice (some ⟨w.heap.size + 1 + 1, 0, none⟩) 2 2, .slice none 0 0, .slice none 0 0, .slice none 0 0, .slice (some ⟨w.heap.size + 1 + 1 + 1, 0, none⟩) 1 1, .slice none 0 0] 27))) ((Below.refl _ _).alloc (Nat.le_refl _) _))
  have I2 := (((Sl_new ((w.alloc (.cells #[.int .i64 963] 3)).alloc (.cells #[.int .i64 962] 3)) [.int .i64 931, .slice (some ⟨w.heap.size, 0, none⟩) 1 1, .string ⟨#[]⟩, .int .i64 931, .slice (some ⟨w.heap.size + 1, 0, none⟩) 1 1, .string ⟨#[102, 105, 110, 97, 108]⟩] 38 (B := w.heap.size + 1 + 1) (by simp)).below (w' := ((((w.alloc (.cells #[.int .i64 963] 3)).alloc (.cells #[.int .i64 962] 3)).alloc (.cells #[.int .i64 931, .slice (some ⟨w.heap.size, 0, none⟩) 1 1, .string ⟨#[]⟩, .int .i64 931, .slice (some ⟨w.heap.size + 1, 0, none⟩) 1 1, .string ⟨#[102, 105, 110, 97, 108]⟩] 38)).alloc (.cells #[.int .i64 913, .int .i64 937] 48))) ((Below.refl _ _).alloc (Nat.le_refl _) _)).below (w' := (((((w.alloc (.cells #[.int .i64 963] 3)).alloc (.cells #[.int .i64 962] 3)).alloc (.cells #[.int .i64 931, .slice (some ⟨w.heap.size, 0, none⟩) 1 1, .string ⟨#[]⟩, .int .i64 931, .slice (some ⟨w.heap.size + 1, 0, none⟩) 1 1, .string ⟨#[102, 105, 110, 97, 108]⟩] 38)).alloc (.cells #[.int .i64 913, .int .i64 937] 48)).alloc (.cells #[.slice (some ⟨w.heap.size + 1 + 1, 0, none⟩) 2 2, .slice none 0 0, .slice none 0 0, .slice none 0 0, .slice (some ⟨w.heap.size + 1 + 1 + 1, 0, none⟩) 1 1, .slice none 0 0] 27))) ((Below.refl _ _).alloc (Nat.le_refl _) _))
  have I3 := ((Sl_new (((w.alloc (.cells #[.int .i64 963] 3)).alloc (.cells #[.int .i64 962] 3)).alloc (.cells #[.int .i64 931, .slice (some ⟨w.heap.size, 0, none⟩) 1 1, .string ⟨#[]⟩, .int .i64 931, .slice (some ⟨w.heap.size + 1, 0, none⟩) 1 1, .string ⟨#[102, 105, 110, 97, 108]⟩] 38)) [.int .i64 913, .int .i64 937] 48 (B := w.heap.size + 1 + 1 + 1) (by simp)).below (w' := (((((w.alloc (.cells #[.int .i64 963] 3)).alloc (.cells #[.int .i64 962] 3)).alloc (.cells #[.int .i64 931, .slice (some ⟨w.heap.size, 0, none⟩) 1 1, .string ⟨#[]⟩, .int .i64 931, .slice (some ⟨w.heap.size + 1, 0, none⟩) 1 1, .string ⟨#[102, 105, 110, 97, 108]⟩] 38)).alloc (.cells #[.int .i64 913, .int .i64 937] 48)).alloc (.cells #[.slice (some ⟨w.heap.size + 1 + 1, 0, none⟩) 2 2, .slice none 0 0, .slice none 0 0, .slice none 0 0, .slice (some ⟨w.heap.size + 1 + 1 + 1, 0, none⟩) 1 1, .slice none 0 0] 27))) ((Below.refl _ _).alloc (Nat.le_refl _) _))
  have C5 : CaseAt (((((w.alloc (.cells #[.int .i64 963] 3)).alloc (.cells #[.int .i64 962] 3)).alloc (.cells #[.int .i64 931, .slice (some ⟨w.heap.size, 0, none⟩) 1 1, .string ⟨#[]⟩, .int .i64 931, .slice (some ⟨w.heap.size + 1, 0, none⟩) 1 1, .string ⟨#[102, 105, 110, 97, 108]⟩] 38)).alloc (.cells #[.int .i64 913, .int .i64 937] 48)).alloc (.cells #[.slice (some ⟨w.heap.size + 1 + 1, 0, none⟩) 2 2, .slice none 0 0, .slice none 0 0, .slice none 0 0, .slice (some ⟨w.heap.size + 1 + 1 + 1, 0, none⟩) 1 1, .slice none 0 0] 27)) (.slice (some ⟨w.heap.size + 1 + 1, 0, none⟩) 2 2) (.slice none 0 0) (.slice none 0 0) (.slice none 0 0) (.slice (some ⟨w.heap.size + 1 + 1 + 1, 0, none⟩) 1 1) (.slice none 0 0) cL := ⟨⟨_, 2, rfl, Nat.le_refl _, cL_maps _ _ _ _ I0 I1 I2⟩, ⟨none, 0, rfl, Nat.le_refl _, Mps.nil _ _⟩, ⟨none, 0, rfl, Nat.le_refl _, Mps.nil _ _⟩, ⟨none, 0, rfl, Nat.le_refl _, Mps.nil _ _⟩, ⟨_, 1, rfl, Nat.le_refl _, I3⟩, ⟨none, 0, rfl, Nat.le_refl _, Sl.nil _ _⟩⟩
  have W5E : ∃ W5, (((((w.alloc (.cells #[.int .i64 963] 3)).alloc (.cells #[.int .i64 962] 3)).alloc (.cells #[.int .i64 931, .slice (some ⟨w.heap.size, 0, none⟩) 1 1, .string ⟨#[]⟩, .int .i64 931, .slice (some ⟨w.heap.size + 1, 0, none⟩) 1 1, .string ⟨#[102, 105, 110, 97, 108]⟩] 38)).alloc (.cells #[.int .i64 913, .int .i64 937] 48)).alloc (.cells #[.slice (some ⟨w.heap.size + 1 + 1, 0, none⟩) 2 2, .slice none 0 0, .slice none 0 0, .slice none 0 0, .slice (some ⟨w.heap.size + 1 + 1 + 1, 0, none⟩) 1 1, .slice none 0 0] 27)) = W5 := ⟨_, rfl⟩
  clear I0 I1 I2 I3
  go_enter Try.func15, Try.ntmps15
  go_wp2_with fail
  obtain ⟨W5, hW5⟩ := W5E
  rw [hW5] at B5 s5 X5 C5 ⊢
  clear hW5
  have HX := Lib.hid X5
  have LC := Lib.hid (fun W B (t : List Int) n (hb : Below W5.heap.size W5 W) (hI : Ints W (some ⟨B, 0, none⟩) t) (hn : t.length = n) (hz : n ≤ 40) (hk : ∀ z ∈ t, -9223372036854775808 ≤ z ∧ z ≤ 9223372036854775807) => Lower_any _ _ _ _ _ _ cL (some ⟨B, 0, none⟩) n n t W (C5.below hb) cL_sz hI hn (by omega) (Nat.le_refl _) (by omega) (iok_cons hk))
  have FC := Lib.hid (fun W B (t : List Int) n (i : Int) (hb : Below W5.heap.size W5 W) (hI : Ints W (some ⟨B, 0, none⟩) t) (hn : t.length = n) (hz : n ≤ 40) => Final_any _ _ _ _ _ _ cL (some ⟨B, 0, none⟩) n n t i W (C5.below hb) cL_sz hI hn (by omega))
  have EC := Lib.hid (fun W E B (l : List Int) n d (h1 : Ints W E l) (h2 : Ints W (some ⟨B, 0, none⟩) l) (hn : l.length = n) (hz : n ≤ 1000) => Equal_same E (some ⟨B, 0, none⟩) n d n l W h1 h2 hn (by omega))
  clear C5 X5
  have J1 : Ints (W5.alloc (.cells #[.int .i64 913, .int .i64 931] 3)) (some ⟨w.heap.size + 1 + 1 + 1 + 1 + 1, 0, none⟩) [913, 931] := Ints_new W5 [913, 931] 3 (B := w.heap.size + 1 + 1 + 1 + 1 + 1) s5.symm
  have L1 := Lib.hid (LC.out _ _ [913, 931] 2 ((Below.refl _ _).alloc (Nat.le_refl _) _) J1 rfl (by omega) (by simp))
  rw [cL1] at L1
  clear J1
  with_reducible refine L1.out.mono ?_
  rintro e W6 ⟨E1, d1, rfl, _, hE1, hb6⟩
  have hb7 := Below.trans ((Below.refl _ _).alloc (Nat.le_refl _) _) (hb6.mono (by simp))
  clear L1 hb6
  have J2 : Ints (W6.alloc (.cells #[.int .i64 913, .int .i64 962] 3)) (some ⟨W6.heap.size, 0, none⟩) [913, 962] := Ints_new W6 [913, 962] 3 (B := W6.heap.size) rfl
  have Q2 := Lib.hid (EC.out _ E1 _ [913, 962] 2 d1 (hE1.below ((Below.refl _ _).alloc (Nat.le_refl _) _)) J2 rfl (by omega))
  have hb8 := hb7.trans (Below.mono (w' := W6.alloc (.cells #[.int .i64 913, .int .i64 962] 3)) ((Below.refl _ _).alloc (Nat.le_refl _) _) hb7.size)
  clear J2 hE1
  go_wp2_with fail
  with_reducible refine Q2.out.mono ?_
  rintro e W7 ⟨rfl, hq7⟩
  have hb9 := hb8.trans (hq7.below.mono hb8.size)
  have X7 := HX.out.below hb9 HX.out.lt
  have f0 := X7.cell (i := 0) rfl
  have f1 := X7.cell (i := 1) rfl
  have f2 := X7.cell (i := 2) rfl
  have f3 := X7.cell (i := 3) rfl
  have f4 := X7.cell (i := 4) rfl
  have f5 := X7.cell (i := 5) rfl
  have hl7 := X7.lt
  have J3 : Ints (W7.alloc (.cells #[.int .i64 931] 3)) (some ⟨W7.heap.size, 0, none⟩) [931] := Ints_new W7 [931] 3 (B := W7.heap.size) rfl
  have hb10 := hb9.trans (Below.mono (w' := W7.alloc (.cells #[.int .i64 931] 3)) ((Below.refl _ _).alloc (Nat.le_refl _) _) hb9.size)
  have L3 := Lib.hid (LC.out _ _ [931] 1 hb10 J3 rfl (by omega) (by simp))
  rw [cL2] at L3
  clear J3 Q2 hq7 hb8 X7
  go_wp2_with fail
  with_reducible refine L3.out.mono ?_
  rintro e W8 ⟨E3, d3, rfl, _, hE3, hb11⟩
  have hb12 := hb10.trans (hb11.mono hb10.size)
  have J4 : Ints (W8.alloc (.cells #[.int .i64 963] 3)) (some ⟨W8.heap.size, 0, none⟩) [963] := Ints_new W8 [963] 3 (B := W8.heap.size) rfl
  have Q4 := Lib.hid (EC.out _ E3 _ [963] 1 d3 (hE3.below ((Below.refl _ _).alloc (Nat.le_refl _) _)) J4 rfl (by omega))
  have hb13 := hb12.trans (Below.mono (w' := W8.alloc (.cells #[.int .i64 963] 3)) ((Below.refl _ _).alloc (Nat.le_refl _) _) hb12.size)
  clear J4 hE3 L3 f0 f1 f2 f3 f4 f5
  go_wp2_with fail
  with_reducible refine Q4.out.mono ?_
  rintro e W9 ⟨rfl, hq9⟩
  have hb14 := hb13.trans (hq9.below.mono hb13.size)
  have X9 := HX.out.below hb14 HX.out.lt
  have g0 := X9.cell (i := 0) rfl
  have g1 := X9.cell (i := 1) rfl
  have g2 := X9.cell (i := 2) rfl
  have g3 := X9.cell (i := 3) rfl
  have g4 := X9.cell (i := 4) rfl
  have g5 := X9.cell (i := 5) rfl
  have hl9 := X9.lt
  have J5 : Ints (W9.alloc (.cells #[.int .i64 913, .int .i64 931] 3)) (some ⟨W9.heap.size, 0, none⟩) [913, 931] := Ints_new W9 [913, 931] 3 (B := W9.heap.size) rfl
  have hb15 := hb14.trans (Below.mono (w' := W9.alloc (.cells #[.int .i64 913, .int .i64 931] 3)) ((Below.refl _ _).alloc (Nat.le_refl _) _) hb14.size)
  have F5 := Lib.hid (FC.out _ _ [913, 931] 2 1 hb15 J5 rfl (by omega))
  rw [cL3] at F5
  clear J5 Q4 hq9 X9
  go_wp2_with fail
  with_reducible refine F5.out.mono ?_
  rintro e W10 ⟨rfl, hb16⟩
  have hb17 := B5.trans ((hb15.trans (hb16.mono hb15.size)).mono B5.size)
  clear F5
  go_wp2_with fail
  go_ret
  exact ⟨rfl, hb17⟩

end Go.Proofs.Ytpamkbbmbeeheaa
