/- The walks of OrderingChecks and OrderingClasses. -/
import Derived.Test.YthagfcdleapooaaDoorAlive
namespace Go.Proofs.YthagfcdleapooaaDoor
open Go.RowKit

set_option maxHeartbeats 800000 in
theorem OrderingChecks_any (A : Option Addr) (n k : Nat) (ss : List Spn) (w : World) (hA : Spans w A ss) (hn : ss.length = n) (hL : Laid w) :
    Calls Tryd.prog 3 #[.slice A n k] w (RetTrue w) := by
  have CA := Lib.hid (fun W hb => alive_any W (hL.below hb))
  have S := Lib.hid (Small_any A n k w)
  by_cases h : n ≤ 16
  · have hd : decide (n ≤ 16) = true := by simpa using h
    rw [hd] at S
    have C1 := Lib.hid (Check_any A n k ss w hA hn (by omega) hL)
    have C2 := Lib.hid (fun W hb => refCheck_any A n k ss W (Spans.below (w := w) (w' := W) hA hb) hn (by omega))
    clear hA hL hd hn
    generalize chk ss = z at *
    go_enter Tryd.func3, Tryd.ntmps3
    go_wp2_with fail
    refine S.out.mono ?_
    rintro e w' ⟨rfl, rfl⟩
    go_wp2_with fail
    refine C1.out.mono ?_
    rintro e w1 ⟨rfl, hb1⟩
    go_wp2_with fail
    refine (C2.out _ hb1).mono ?_
    rintro e w2 ⟨rfl, hb2⟩
    have B2 : Below w.heap.size w w2 := hb1.trans (hb2.mono hb1.size)
    clear hb1 hb2
    go_wp2_with fail
    refine (CA.out _ B2).mono ?_
    rintro e w3 ⟨rfl, hb3⟩
    go_wp2_with fail
    go_ret
    exact ⟨rfl, B2.trans (hb3.mono B2.size)⟩
  · have hd : decide (n ≤ 16) = false := by simpa using h
    rw [hd] at S
    clear hA hL hd hn
    go_enter Tryd.func3, Tryd.ntmps3
    go_wp2_with fail
    refine S.out.mono ?_
    rintro e w' ⟨rfl, rfl⟩
    go_wp2_with fail
    refine (CA.out _ (Below.refl _ _)).mono ?_
    rintro e w3 ⟨rfl, hb3⟩
    go_wp2_with fail
    go_ret
    exact ⟨rfl, hb3⟩

set_option maxHeartbeats 800000 in
theorem OrderingClasses_any (A : Option Addr) (n k : Nat) (ss : List Spn) (c : Int) (w : World) (hA : Spans w A ss) (hn : ss.length = n) (hL : Laid w) :
    Calls Tryd.prog 8 #[.slice A n k, .int .i64 c] w (RetTrue w) := by
  have CA := Lib.hid (fun W hb => alive_any W (hL.below hb))
  have S := Lib.hid (Small_any A n k w)
  by_cases h : n ≤ 16
  · have hd : decide (n ≤ 16) = true := by simpa using h
    rw [hd] at S
    have C1 := Lib.hid (fun W hb => Class_any A n k ss c W (Spans.below (w := w) (w' := W) hA hb) hn (by omega) (hL.below hb))
    have C2 := Lib.hid (fun W hb => refClass_any A n k ss c W (Spans.below (w := w) (w' := W) hA hb) hn (by omega))
    have C3 := Lib.hid (fun W hb => Starter_any A n k ss c W (Spans.below (w := w) (w' := W) hA hb) hn (by omega) (hL.below hb))
    have C4 := Lib.hid (fun W hb => refStarter_any A n k ss c W (Spans.below (w := w) (w' := W) hA hb) hn (by omega))
    clear hA hL hd hn
    generalize clz ss c = z at *
    go_enter Tryd.func8, Tryd.ntmps8
    go_wp2_with fail
    refine S.out.mono ?_
    rintro e w' ⟨rfl, rfl⟩
    go_wp2_with fail
    refine (C1.out _ (Below.refl _ _)).mono ?_
    rintro e w1 ⟨rfl, hb1⟩
    go_wp2_with fail
    refine (C2.out _ hb1).mono ?_
    rintro e w2 ⟨rfl, hb2⟩
    have B2 : Below w.heap.size w w2 := hb1.trans (hb2.mono hb1.size)
    clear hb1 hb2
    go_wp2_with fail
    refine (C3.out _ B2).mono ?_
    rintro e w3 ⟨rfl, hb3⟩
    have B3 : Below w.heap.size w w3 := B2.trans (hb3.mono B2.size)
    clear hb3 B2
    go_wp2_with fail
    refine (C4.out _ B3).mono ?_
    rintro e w4 ⟨rfl, hb4⟩
    have B4 : Below w.heap.size w w4 := B3.trans (hb4.mono B3.size)
    clear hb4 B3
    go_wp2_with fail
    refine (CA.out _ B4).mono ?_
    rintro e w5 ⟨rfl, hb5⟩
    go_wp2_with fail
    go_ret
    exact ⟨rfl, B4.trans (hb5.mono B4.size)⟩
  · have hd : decide (n ≤ 16) = false := by simpa using h
    rw [hd] at S
    clear hA hL hd hn
    go_enter Tryd.func8, Tryd.ntmps8
    go_wp2_with fail
    refine S.out.mono ?_
    rintro e w' ⟨rfl, rfl⟩
    go_wp2_with fail
    refine (CA.out _ (Below.refl _ _)).mono ?_
    rintro e w3 ⟨rfl, hb3⟩
    go_wp2_with fail
    go_ret
    exact ⟨rfl, hb3⟩

end Go.Proofs.YthagfcdleapooaaDoor
