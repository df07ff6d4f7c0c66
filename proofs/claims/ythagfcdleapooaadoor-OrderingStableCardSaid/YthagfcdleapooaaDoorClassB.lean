/- Contracts of usable, Class, Starter and of the reference's Class, Starter, Small: the class of a number in any spans. -/
import Derived.Test.YthagfcdleapooaaDoorRefCheck
namespace Go.Proofs.YthagfcdleapooaaDoor
open Go.RowKit

/-- the spans if they are valid, none otherwise -/
def us (ss : List Spn) : List Spn := if chk ss = 0 then ss else []
/-- the class of a number in any spans -/
def clz (ss : List Spn) (c : Int) : Int := cls (us ss) c

theorem us_ok {ss : List Spn} (h : chk ss = 0) : us ss = ss := by unfold us; rw [if_pos h]
theorem us_no {ss : List Spn} (h : ¬ chk ss = 0) : us ss = [] := by unfold us; rw [if_neg h]
theorem us_len (ss : List Spn) : (us ss).length ≤ ss.length := by unfold us; split <;> simp
theorem us_asc (ss : List Spn) : Asc (us ss) := by
  by_cases h : chk ss = 0
  · rw [us_ok h]; exact asc_of_ok h
  · rw [us_no h]; exact Asc.nil

theorem cls_range {ss : List Spn} (h : ∀ t, (ht : t < ss.length) → ¬ Bad1 ss[t]) (c : Int) : 0 ≤ cls ss c ∧ cls ss c ≤ 254 := by
  induction ss with
  | nil => simp [cls]
  | cons s r ih =>
    unfold cls
    split
    · have := h 0 (by simp)
      simp only [List.getElem_cons_zero] at this
      unfold Bad1 at this
      omega
    · exact ih fun t ht => by
        have := h (t + 1) (by simpa using ht)
        simpa using this
theorem clz_range (ss : List Spn) (c : Int) : 0 ≤ clz ss c ∧ clz ss c ≤ 254 := by
  unfold clz
  by_cases h : chk ss = 0
  · rw [us_ok h]; exact cls_range (chk_ok h).1 c
  · rw [us_no h]; simp [cls]

def RetSpans (ss : List Spn) (w : World) (e : Ending) (w' : World) : Prop := ∃ A k, e = .returned (.slice A ss.length k) ∧ Spans w' A ss ∧ Below w.heap.size w w'

theorem usable_any (A : Option Addr) (n k : Nat) (ss : List Spn) (w : World) (hA : Spans w A ss) (hn : ss.length = n) (hbig : n ≤ 1099511627776) (hL : Laid w) :
    Calls Tryd.prog 35 #[.slice A n k] w (RetSpans (us ss) w) := by
  subst hn
  have C := Lib.hid (Check_any A ss.length k ss w hA rfl hbig hL)
  clear hL
  by_cases h : chk ss = 0
  · rw [us_ok h]
    rw [h] at C
    clear h
    go_enter Tryd.func35, Tryd.ntmps35
    go_wp2_with fail
    refine C.out.mono ?_
    rintro e w1 ⟨rfl, hb1⟩
    go_wp2_with fail
    go_ret
    exact ⟨A, k, rfl, hA.below hb1, hb1⟩
  · rw [us_no h]
    have hne : (chk ss != 0) = true := by simpa using h
    generalize chk ss = z at *
    clear h
    go_enter Tryd.func35, Tryd.ntmps35
    go_wp2_with fail
    refine C.out.mono ?_
    rintro e w1 ⟨rfl, hb1⟩
    go_wp2_with fail
    go_ret
    exact ⟨none, 0, rfl, Sl.nil _ _, hb1⟩

theorem Class_any (A : Option Addr) (n k : Nat) (ss : List Spn) (c : Int) (w : World) (hA : Spans w A ss) (hn : ss.length = n) (hbig : n ≤ 1099511627776) (hL : Laid w) :
    Calls Tryd.prog 20 #[.slice A n k, .int .i64 c] w (RetInt (clz ss c) w) := by
  have hle := us_len ss
  have U := Lib.hid (usable_any A n k ss w hA hn hbig hL)
  have hasc := Lib.hid (us_asc ss)
  rw [hn] at hle
  unfold clz
  clear hA hL hn
  generalize us ss = ts at *
  go_enter Tryd.func20, Tryd.ntmps20
  go_wp2_with fail
  refine U.out.mono ?_
  rintro e w1 ⟨A1, k1, rfl, hA1, hb1⟩
  go_wp2_with fail
  refine (class_any A1 ts.length k1 ts c w1 hA1 rfl (by omega) hasc.out).mono ?_
  rintro e w2 ⟨rfl, hb2⟩
  go_wp2_with fail
  go_ret
  exact ⟨rfl, hb1.trans (hb2.mono hb1.size)⟩

def RetBool (x : Bool) (w : World) (e : Ending) (w' : World) : Prop := e = .returned (.bool x) ∧ Below w.heap.size w w'

theorem Starter_any (A : Option Addr) (n k : Nat) (ss : List Spn) (c : Int) (w : World) (hA : Spans w A ss) (hn : ss.length = n) (hbig : n ≤ 1099511627776) (hL : Laid w) :
    Calls Tryd.prog 26 #[.slice A n k, .int .i64 c] w (RetBool (clz ss c == 0) w) := by
  have U := Lib.hid (Class_any A n k ss c w hA hn hbig hL)
  clear hA hL hn
  generalize clz ss c = z at *
  go_enter Tryd.func26, Tryd.ntmps26
  go_wp2_with fail
  refine U.out.mono ?_
  rintro e w1 ⟨rfl, hb1⟩
  go_wp2_with fail
  go_ret
  exact ⟨rfl, hb1⟩

theorem cls_drop (ss : List Spn) (c : Int) (i : Nat) (h : i < ss.length) : cls (ss.drop i) c = if ss[i].lo ≤ c ∧ c ≤ ss[i].hi then ss[i].val else cls (ss.drop (i + 1)) c := by
  rw [List.drop_eq_getElem_cons h]; rfl

set_option maxHeartbeats 800000 in
theorem refClass_any (A : Option Addr) (n k : Nat) (ss : List Spn) (c : Int) (w : World) (hA : Spans w A ss) (hn : ss.length = n) (hbig : n ≤ 1099511627776) :
    Calls Tryd.prog 25 #[.slice A n k, .int .i64 c] w (RetInt (clz ss c) w) := by
  subst hn
  have C := Lib.hid (refCheck_any A ss.length k ss w hA rfl hbig)
  unfold clz
  by_cases h : chk ss = 0
  · rw [us_ok h]
    rw [h] at C
    clear h
    go_enter Tryd.func25, Tryd.ntmps25
    go_wp2_with fail
    refine C.out.mono ?_
    rintro e w1 ⟨rfl, hb1⟩
    go_wp2_with fail
    go_loop [5] (fun u => ∃ i : Nat, i ≤ ss.length ∧ u = .int .i64 i ∧ cls ss c = cls (ss.drop i) c) (fun u => ss.length - (intOf u).toNat)
    case atStart => exact ⟨0, Nat.zero_le _, rfl, rfl⟩
    case round =>
      obtain ⟨i, hi, rfl, hc⟩ := hrel
      have HC := Lib.hid hc; clear hc
      by_cases hlt : i < ss.length
      · obtain ⟨b, o, rfl, hbl, hcell⟩ := (hA.below hb1).at hlt
        obtain ⟨c1, c2, c3⟩ := hcell i hlt
        clear hcell
        have HD := Lib.hid (cls_drop ss c i hlt)
        generalize ss[i].lo = lo at *
        generalize ss[i].hi = hi' at *
        generalize ss[i].val = v at *
        by_cases t1 : lo ≤ c
        · by_cases t2 : c ≤ hi'
          · go_wp2
            go_ret
            exact ⟨ret_int (by rw [HC.out, HD.out, if_pos ⟨t1, t2⟩]), hb1⟩
          · go_wp2
            go_round
            case rel => exact ⟨i + 1, by omega, by go_num, by rw [HC.out, HD.out, if_neg (by omega)]⟩
            case measure => simp [intOf]; omega
        · go_wp2
          go_round
          case rel => exact ⟨i + 1, by omega, by go_num, by rw [HC.out, HD.out, if_neg (by omega)]⟩
          case measure => simp [intOf]; omega
      · have HD := Lib.hid (show cls (ss.drop i) c = 0 by rw [List.drop_eq_nil_of_le (by omega)]; rfl)
        go_wp2
        go_ret
        exact ⟨ret_int (by rw [HC.out, HD.out]), hb1⟩
  · rw [us_no h]
    have hne : (chk ss != 0) = true := by simpa using h
    generalize chk ss = z at *
    clear h
    go_enter Tryd.func25, Tryd.ntmps25
    go_wp2_with fail
    refine C.out.mono ?_
    rintro e w1 ⟨rfl, hb1⟩
    go_wp2_with fail
    go_ret
    exact ⟨rfl, hb1⟩

theorem refStarter_any (A : Option Addr) (n k : Nat) (ss : List Spn) (c : Int) (w : World) (hA : Spans w A ss) (hn : ss.length = n) (hbig : n ≤ 1099511627776) :
    Calls Tryd.prog 27 #[.slice A n k, .int .i64 c] w (RetBool (clz ss c == 0) w) := by
  have U := Lib.hid (refClass_any A n k ss c w hA hn hbig)
  clear hA hn
  generalize clz ss c = z at *
  go_enter Tryd.func27, Tryd.ntmps27
  go_wp2_with fail
  refine U.out.mono ?_
  rintro e w1 ⟨rfl, hb1⟩
  go_wp2_with fail
  go_ret
  exact ⟨rfl, hb1⟩

theorem Small_any (A : Option Addr) (n k : Nat) (w : World) : Calls Tryd.prog 12 #[.slice A n k] w fun e w' => e = .returned (.bool (decide (n ≤ 16))) ∧ w = w' := by
  go_enter Tryd.func12, Tryd.ntmps12
  go_wp2_with fail
  go_ret
  refine ⟨ret_bool ?_, rfl⟩
  rw [Bool.eq_iff_iff]; simp; omega

theorem few_any (A B : Option Addr) (n k m l : Nat) (w : World) : Calls Tryd.prog 16 #[.slice A n k, .slice B m l] w fun e w' => e = .returned (.bool (decide (n ≤ 16 ∧ m ≤ 40))) ∧ w = w' := by
  by_cases h : n ≤ 16
  · have hd : decide (n ≤ 16) = true := by simpa using h
    have C := Lib.hid (Small_any A n k w)
    rw [hd] at C
    go_enter Tryd.func16, Tryd.ntmps16
    go_wp2_with fail
    refine C.out.mono ?_
    rintro e w1 ⟨rfl, rfl⟩
    go_wp2_with fail
    go_ret
    refine ⟨ret_bool ?_, rfl⟩
    rw [Bool.eq_iff_iff]; simp; omega
  · have hd : decide (n ≤ 16) = false := by simpa using h
    have C := Lib.hid (Small_any A n k w)
    rw [hd] at C
    go_enter Tryd.func16, Tryd.ntmps16
    go_wp2_with fail
    refine C.out.mono ?_
    rintro e w1 ⟨rfl, rfl⟩
    go_wp2_with fail
    go_ret
    refine ⟨ret_bool ?_, rfl⟩
    rw [Bool.eq_iff_iff]; simp; omega

end Go.Proofs.YthagfcdleapooaaDoor
