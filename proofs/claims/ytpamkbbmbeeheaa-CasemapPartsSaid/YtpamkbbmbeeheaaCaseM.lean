/- The contracts of the mapper's methods and of joined. -/
import Derived.Test.YtpamkbbmbeeheaaCaseT
import Derived.Outline
namespace Go.Proofs.Ytpamkbbmbeeheaa
open Go.RowKit Go.Maps Go.WideMaps

theorem TgtAt.look_some {w : World} {M : Nat} {g : Int → Option (List Int)} (h : TgtAt w M g) {x : Int} (hx : iok x) {l : List Int} (hg : g x = some l) :
    ∃ E d, l.length ≤ d ∧ Ints w E l ∧ ∀ q, (Instr.lookup 61 (.map (some M)) (.int .i64 x) true).run Try.prog (w.drewN q) = .ok (.tuple #[.slice E l.length d, .bool true]) (w.drewN q) := by
  obtain ⟨k, f, h1, h2⟩ := h.ex
  have := h2 x hx
  rw [hg] at this
  obtain ⟨E, d, e1, e2, e3⟩ := this
  refine ⟨E, d, e2, e3, fun q => ?_⟩
  rw [(h1.below (below_of_drewN w q)).lookOk law_int Try.underlying61 (zero_is _) hx (key_int hx), e1]
  rfl
theorem TgtAt.look_none {w : World} {M : Nat} {g : Int → Option (List Int)} (h : TgtAt w M g) {x : Int} (hx : iok x) (hg : g x = none) (q : Nat) :
    (Instr.lookup 61 (.map (some M)) (.int .i64 x) true).run Try.prog (w.drewN q) = .ok (.tuple #[.slice none 0 0, .bool false]) (w.drewN q) := by
  obtain ⟨k, f, h1, h2⟩ := h.ex
  have := h2 x hx
  rw [hg] at this
  rw [(h1.below (below_of_drewN w q)).lookOk law_int Try.underlying61 (zero_is _) hx (key_int hx), this]
  rfl

theorem retIs_same {t : List Int} {i : Nat} (hi : i < t.length) {w w' : World} {b o c : Nat} (hc : w'.cell? ⟨b, o + i, none⟩ = some (.int .i64 t[i])) (h1 : 1 ≤ c) (hb : Below w.heap.size w w') :
    RetIs (sameAt t i) w (.returned (.slice (some ⟨b, o + i, none⟩) 1 c)) w' := by
  have e : sameAt t i = [t[i]] := by unfold sameAt; rw [getD_at hi]
  rw [e]
  refine ⟨some ⟨b, o + i, none⟩, c, rfl, h1, ?_, hb⟩
  intro _
  refine ⟨b, o + i, rfl, fun j u hu => ?_⟩
  have hj : j = 0 := by
    have := (List.getElem?_eq_some_iff.1 hu).1
    simp at this
    omega
  subst hj
  simp at hu
  rw [← hu]
  exact hc

set_option maxRecDepth 100000 in
set_option maxHeartbeats 3200000 in
theorem same_any (b : Nat) (A : Option Addr) (c : Nat) (t : List Int) (v1 v2 v3 v4 v5 : Value) (i : Nat) (w : World) (hB : Box w b 64 [.slice A t.length c, v1, v2, v3, v4, v5]) (hA : Ints w A t) (hi : i < t.length) (hc : t.length ≤ c) (hz : c ≤ 9223372036854775807) :
    Calls Try.prog 55 #[.pointer (some ⟨b, 0, none⟩), .int .i64 i] w (RetIs (sameAt t i) w) := by
  obtain ⟨b1, o1, rfl, hcell⟩ := hA.at hi
  have k0 := hB.cell (i := 0) rfl
  have HC := Lib.hid (hcell i hi)
  have hlt := hB.lt
  have HI := Lib.hid hi
  have e1 : (i : Int) + 1 ≤ c := by omega
  have e2 : i + 1 ≤ c := by omega
  have R := Lib.hid (fun (h1 : 1 ≤ c - i) => retIs_same (w := w) hi (hcell i hi) h1 (Below.refl _ _))
  generalize RetIs (sameAt t i) w = RR at *
  clear hcell hB hA HC
  go_enter Try.func55, Try.ntmps55
  go_wp2_with fail
  exact R.out (by omega)

set_option maxRecDepth 100000 in
set_option maxHeartbeats 3200000 in
theorem upper_any (b : Nat) (A : Option Addr) (c : Nat) (t : List Int) (ms : List Mp) (v1 v2 v3 v4 : Value) (M i : Nat) (w : World) (hB : Box w b 64 [.slice A t.length c, v1, v2, v3, v4, .map (some M)]) (hA : Ints w A t) (hi : i < t.length) (hc : t.length ≤ c) (hz : c ≤ 9223372036854775807)
    (hM : TgtAt w M (fun x => getM ms x .empty)) (hx : iok t[i]) :
    Calls Try.prog 46 #[.pointer (some ⟨b, 0, none⟩), .int .i64 i] w (RetIs (upAt ms t i) w) := by
  have SM := Lib.hid (fun W (hb : Below w.heap.size w W) => same_any b A c t v1 v2 v3 v4 (.map (some M)) i W (hB.below hb hB.lt) (hA.below hb) hi hc hz)
  obtain ⟨b1, o1, rfl, hcell⟩ := hA.at hi
  have k0 := hB.cell (i := 0) rfl
  have k5 := hB.cell (i := 5) rfl
  have c0 := hcell i hi
  have hlt := hB.lt
  have e2 : (0 : Int) ≤ i := by omega
  have e3 : (i : Int) < t.length := by omega
  have UT := Lib.hid (show upAt ms t i = (getM ms t[i] .empty).getD (sameAt t i) by unfold upAt mapT sameAt; rw [getD_at hi])
  clear hcell hB hA
  cases hg : getM ms t[i] .empty with
  | some l =>
    obtain ⟨E, d, l1, l2, HL⟩ := hM.look_some hx hg
    rw [hg] at UT
    have HL2 := Lib.hid (And.intro l1 l2)
    clear hM l2 hx hg SM l1
    generalize t[i] = ti at *
    generalize upAt ms t i = U at *
    obtain rfl := UT.out
    clear UT
    (try simp only [Option.getD_some])
    go_enter Try.func46, Try.ntmps46
    go_wp2_with fail
    go_quiet (fail)
    go_wp2_with fail
    go_ret
    exact ⟨E, d, rfl, HL2.out.1, HL2.out.2, below_of_drewN _ _⟩
  | none =>
    have HL := hM.look_none hx hg
    rw [hg] at UT
    clear hM hx hg
    generalize t[i] = ti at *
    generalize upAt ms t i = U at *
    obtain rfl := UT.out
    clear UT
    (try simp only [Option.getD_none])
    go_enter Try.func46, Try.ntmps46
    go_wp2_with fail
    go_quiet (fail)
    go_wp2_with fail
    with_reducible refine (SM.out _ (below_of_drewN _ _)).mono ?_
    rintro e W2 ⟨E, d, rfl, h2, h3, h4⟩
    have H4 := (below_of_drewN w _).trans h4
    have HE := Lib.hid (And.intro h2 h3)
    clear h2 h3 h4 SM HL
    go_wp2_with fail
    go_ret
    exact ⟨E, d, rfl, HE.out.1, HE.out.2, H4⟩

theorem lowX_t {C : Cse} {x : Int} {l : List Int} (h : getM C.lower x finalS = some l) : lowX C x true = l := by unfold lowX; rw [h]; rfl
theorem lowX_n {C : Cse} {x : Int} (h : getM C.lower x finalS = none) (f : Bool) : lowX C x f = mapT C.lower x := by unfold lowX; rw [h]; cases f <;> rfl
theorem lowX_f (C : Cse) (x : Int) : lowX C x false = mapT C.lower x := by unfold lowX; simp
theorem mapT_s {ms : List Mp} {x : Int} {l : List Int} (h : getM ms x .empty = some l) : mapT ms x = l := by unfold mapT; rw [h]; rfl
theorem mapT_n {ms : List Mp} {t : List Int} {i : Nat} (hi : i < t.length) (h : getM ms t[i] .empty = none) : mapT ms t[i] = sameAt t i := by unfold mapT sameAt; rw [h, getD_at hi]; rfl

set_option maxRecDepth 100000 in
set_option maxHeartbeats 6400000 in
theorem lower_any (b : Nat) (A : Option Addr) (c : Nat) (t : List Int) (C : Cse) (fs : List Bool) (F : Option Addr) (cf : Nat) (v1 v5 : Value) (Ms Me i : Nat) (w : World)
    (hB : Box w b 64 [.slice A t.length c, v1, .slice F fs.length cf, .map (some Ms), .map (some Me), v5]) (hA : Ints w A t) (hi : i < t.length) (hc : t.length ≤ c) (hz : c ≤ 9223372036854775807)
    (hF : Bools w F fs) (hf : i < fs.length) (hS : TgtAt w Ms (fun x => getM C.lower x .empty)) (hE : TgtAt w Me (fun x => getM C.lower x finalS)) (hx : iok t[i]) :
    Calls Try.prog 44 #[.pointer (some ⟨b, 0, none⟩), .int .i64 i] w (RetIs (lowX C t[i] fs[i]) w) := by
  have SM := Lib.hid (fun W (hb : Below w.heap.size w W) => same_any b A c t v1 (.slice F fs.length cf) (.map (some Ms)) (.map (some Me)) v5 i W (hB.below hb hB.lt) (hA.below hb) hi hc hz)
  obtain ⟨b1, o1, rfl, hcell⟩ := hA.at hi
  obtain ⟨b2, o2, rfl, hbl2, hcell2⟩ := hF.at hf
  have k0 := hB.cell (i := 0) rfl
  have k2 := hB.cell (i := 2) rfl
  have k3 := hB.cell (i := 3) rfl
  have k4 := hB.cell (i := 4) rfl
  have c0 := hcell i hi
  have d0 := hcell2 i hf
  have hlt := hB.lt
  have e2 : (0 : Int) ≤ i := by omega
  have e3 : (i : Int) < t.length := by omega
  have e4 : (i : Int) < fs.length := by omega
  have UT := Lib.hid (fun l (h : getM C.lower t[i] finalS = some l) => lowX_t h)
  have UN := Lib.hid (fun (h : getM C.lower t[i] finalS = none) (f : Bool) => lowX_n h f)
  have UF := Lib.hid (lowX_f C t[i])
  have VS := Lib.hid (fun l (h : getM C.lower t[i] .empty = some l) => mapT_s h)
  have VN := Lib.hid (fun (h : getM C.lower t[i] .empty = none) => mapT_n hi h)
  clear hcell hcell2 hB hA hF
  generalize fs[i] = fi at *
  by_cases hcs : ∃ l, getM C.lower t[i] finalS = some l ∧ fi = true
  · obtain ⟨l, hg, rfl⟩ := hcs
    obtain ⟨E, d, l1, l2, HL⟩ := hE.look_some hx hg
    have HL2 := Lib.hid (And.intro l1 l2)
    have U := Lib.hid (UT.out l hg)
    clear hE hS l2 hx hg SM l1 UT UN UF VS VN
    generalize lowX C t[i] true = LL at *
    generalize t[i] = ti at *
    obtain rfl := U.out
    clear U
    go_enter Try.func44, Try.ntmps44
    go_wp2_with fail
    go_quiet (fail)
    go_wp2_with fail
    go_ret
    exact ⟨E, d, rfl, HL2.out.1, HL2.out.2, below_of_drewN _ _⟩
  · have US : lowX C t[i] fi = mapT C.lower t[i] := by
      cases hg : getM C.lower t[i] finalS with
      | none => exact UN.out hg fi
      | some l =>
        cases fi with
        | true => exact absurd ⟨l, hg, rfl⟩ hcs
        | false => exact UF.out
    rw [US]
    clear US
    cases hg : getM C.lower t[i] finalS with
    | none =>
      have HL := hE.look_none hx hg
      clear hE hg hcs UT UN UF
      cases hs : getM C.lower t[i] .empty with
      | some l =>
        obtain ⟨E2, d2, m1, m2, HK⟩ := hS.look_some hx hs
        have HS2 := Lib.hid (And.intro m1 m2)
        have U := Lib.hid (VS.out l hs)
        clear hS hx hs SM m1 m2 VS VN
        generalize mapT C.lower t[i] = LL at *
        generalize t[i] = ti at *
        obtain rfl := U.out
        clear U
        go_enter Try.func44, Try.ntmps44
        go_wp2_with fail
        go_quiet (fail)
        go_wp2_with fail
        go_quiet (fail)
        go_wp2_with fail
        go_ret
        exact ⟨E2, d2, rfl, HS2.out.1, HS2.out.2, (((Qt.refl w).drewN _).drewN _).below⟩
      | none =>
        have HK := hS.look_none hx hs
        have U := Lib.hid (VN.out hs)
        clear hS hx hs VS VN
        generalize mapT C.lower t[i] = LL at *
        generalize t[i] = ti at *
        obtain rfl := U.out
        clear U
        go_enter Try.func44, Try.ntmps44
        go_wp2_with fail
        go_quiet (fail)
        go_wp2_with fail
        go_quiet (fail)
        go_wp2_with fail
        with_reducible refine (SM.out _ (below_of_drewN w _)).mono ?_
        rintro e W2 ⟨E, d, rfl, h2, h3, h4⟩
        have H4 := (below_of_drewN w _).trans h4
        have HE := Lib.hid (And.intro h2 h3)
        clear h2 h3 h4 SM HL HK
        go_wp2_with fail
        go_ret
        exact ⟨E, d, rfl, HE.out.1, HE.out.2, H4⟩
    | some le =>
      obtain rfl : fi = false := by
        cases fi with
        | true => exact absurd ⟨le, hg, rfl⟩ hcs
        | false => rfl
      obtain ⟨E1, d1, l1, l2, HL⟩ := hE.look_some hx hg
      clear l2 l1
      clear hE hg hcs UT UN UF
      cases hs : getM C.lower t[i] .empty with
      | some l =>
        obtain ⟨E2, d2, m1, m2, HK⟩ := hS.look_some hx hs
        have HS2 := Lib.hid (And.intro m1 m2)
        have U := Lib.hid (VS.out l hs)
        clear hS hx hs SM m1 m2 VS VN
        generalize mapT C.lower t[i] = LL at *
        generalize t[i] = ti at *
        obtain rfl := U.out
        clear U
        go_enter Try.func44, Try.ntmps44
        go_wp2_with fail
        go_quiet (fail)
        go_wp2_with fail
        go_quiet (fail)
        go_wp2_with fail
        go_ret
        exact ⟨E2, d2, rfl, HS2.out.1, HS2.out.2, (((Qt.refl w).drewN _).drewN _).below⟩
      | none =>
        have HK := hS.look_none hx hs
        have U := Lib.hid (VN.out hs)
        clear hS hx hs VS VN
        generalize mapT C.lower t[i] = LL at *
        generalize t[i] = ti at *
        obtain rfl := U.out
        clear U
        go_enter Try.func44, Try.ntmps44
        go_wp2_with fail
        go_quiet (fail)
        go_wp2_with fail
        go_quiet (fail)
        go_wp2_with fail
        with_reducible refine (SM.out _ (below_of_drewN w _)).mono ?_
        rintro e W2 ⟨E, d, rfl, h2, h3, h4⟩
        have H4 := (below_of_drewN w _).trans h4
        have HE := Lib.hid (And.intro h2 h3)
        clear h2 h3 h4 SM HL HK
        go_wp2_with fail
        go_ret
        exact ⟨E, d, rfl, HE.out.1, HE.out.2, H4⟩

set_option maxRecDepth 100000 in
set_option maxHeartbeats 3200000 in
theorem joined_any (M b : Nat) (F : Nat → List Int) (lo hi : Nat) (w : World)
    (hF : ∀ i W, lo ≤ i → i < hi → Below w.heap.size w W → Calls Try.prog M #[.pointer (some ⟨b, 0, none⟩), .int .i64 i] W (RetIs (F i) W)) (hl : ∀ i, lo ≤ i → i < hi → (F i).length ≤ 64) (hz : hi ≤ 1048576) (hz2 : lo ≤ 1048576) (hM : ∀ (args : Array Value) (W : World), (callFunc M args).run Try.prog W = .ok (.enter M args) W) :
    Calls Try.prog 43 #[.int .i64 lo, .int .i64 hi, .func (.func M) #[.pointer (some ⟨b, 0, none⟩)] #[]] w (RetOwnI (joinI F lo hi) w) := by
  have CF := Lib.hid hF
  have LJ := Lib.hid (fun i (h : i ≤ hi) => joinI_len (f := F) (lo := lo) (hi := i) (k := 64) (fun j h1 h2 => hl j h1 (by omega)))
  have LF := Lib.hid hl
  have SN := Lib.hid (fun i (h : lo ≤ i) => joinI_snoc F h)
  have NL := Lib.hid (fun i (h : i ≤ lo) => joinI_nil F h)
  clear hF hl
  generalize hJ : joinI F lo = J at *
  clear hJ
  go_enter Try.func43, Try.ntmps43
  go_wp2_with fail
  go_loopw [7, 8] (fun v u wr => ∃ (i : Nat) (A : Option Addr) (c : Nat), lo ≤ i ∧ (i ≤ hi ∨ i = lo) ∧ u = .int .i64 i ∧ v = .slice A (J i).length c ∧ wr.ownsRow w.heap.size 3 1 (.slice A (J i).length c) (J i).length ((J i).map (Value.int .i64)) ∧ Below w.heap.size w wr) (fun _ u _ => hi - (intOf u).toNat)
  case atStart => exact ⟨lo, none, 0, Nat.le_refl _, .inr rfl, rfl, by rw [NL.out lo (Nat.le_refl _)]; rfl, by rw [NL.out lo (Nat.le_refl _)]; exact World.ownsRow_nil _ _ _ _, Below.refl _ _⟩
  case round =>
    obtain ⟨i, A, c, h1, h2, rfl, rfl, hown, hb⟩ := hrel
    have HO := Lib.hid hown
    clear hown
    by_cases hlt : i < hi
    · have CC := Lib.hid (CF.out i wr h1 hlt hb)
      have l1 := LJ.out i (by omega)
      have l2 := LF.out i h1 hlt
      have HSN := Lib.hid (SN.out i h1)
      have l3 : 64 * (i - lo) ≤ 64 * 1048576 := Nat.mul_le_mul_left _ (by omega)
      generalize J i = Ji at *
      generalize F i = Fi at *
      go_wp2_with fail
      with_reducible refine CC.out.mono ?_
      rintro e W1 ⟨E, d, rfl, hd, hE, hb1⟩
      have HO1 := own_keep HO.out hb1
      have hb2 := hb.trans (hb1.mono hb.size)
      have hs1 : w.heap.size ≤ W1.heap.size := hb2.size
      clear CC HO
      go_wp2_with (at_builtin; refine wpList_app _ _ 32 3 (.int .i64 0) 1 8 rfl rfl Try.underlying32 info_int rfl (by decide) (by decide) rfl HO1 rfl hE (by simp) (oneCell_ints _) (by omega) hs1 ?_; intro A1 c1 w1 hown1 hc1 hb3 _ _)
      have HO2 := Lib.hid hown1
      have hb4 := hb2.trans hb3
      clear hown1 HO1 hE
      go_roundw
      case rel => exact ⟨i + 1, A1, c1, by omega, by omega, by go_num, by rw [HSN.out, List.length_append], by rw [HSN.out, List.length_append, List.map_append]; exact HO2.out, hb4⟩
      case measure => simp [intOf]; omega
    · have HE := Lib.hid (show J i = J hi by
        rcases h2 with h2 | h2
        · rw [show i = hi by omega]
        · rw [NL.out i (by omega), NL.out hi (by omega)])
      generalize J i = Ji at *
      generalize J hi = Jh at *
      obtain rfl := HE.out
      clear HE
      go_wp2_with fail
      go_ret
      exact ⟨A, c, rfl, HO.out, hb⟩

theorem enter_same (args : Array Value) (W : World) : (callFunc 55 args).run Try.prog W = .ok (.enter 55 args) W := by kernel_rfl
theorem enter_upper (args : Array Value) (W : World) : (callFunc 46 args).run Try.prog W = .ok (.enter 46 args) W := by kernel_rfl
theorem enter_lower (args : Array Value) (W : World) : (callFunc 44 args).run Try.prog W = .ok (.enter 44 args) W := by kernel_rfl

/-- what the closure of context does: the last value is returned, the next one is stored -/
def RetVisit (x y : Bool) (b : Nat) (w : World) (e : Ending) (w' : World) : Prop := e = .returned (.bool x) ∧ w.grownBy w' (some b) ∧ Box w' b 4 [.bool y]
set_option maxRecDepth 100000 in
set_option maxHeartbeats 3200000 in
theorem visit_any (bn bp bc P C n i : Nat) (x : Bool) (ps cs : List Bool) (w : World) (hn : Box w bn 4 [.bool x]) (hp : Box w bp 55 [.slice (some ⟨P, 0, none⟩) n n]) (hc : Box w bc 55 [.slice (some ⟨C, 0, none⟩) n n])
    (hP : Box w P 4 (ps.map Value.bool)) (hC : Box w C 4 (cs.map Value.bool)) (h1 : ps.length = n) (h2 : cs.length = n) (hi : i < n) :
    Calls Try.prog 67 #[.int .i64 i, .pointer (some ⟨bn, 0, none⟩), .pointer (some ⟨bp, 0, none⟩), .pointer (some ⟨bc, 0, none⟩)] w (RetVisit x (if ps.getD i false = true then x else cs.getD i false) bn w) := by
  have k0 := hn.cell (i := 0) rfl
  have f0 := hn.free 0
  have k1 := hp.cell (i := 0) rfl
  have k2 := hc.cell (i := 0) rfl
  have k3 := hP.cell (i := i) (v := .bool (ps.getD i false)) (by simp [List.getElem?_eq_getElem (show i < ps.length by omega)])
  have k4 := hC.cell (i := i) (v := .bool (cs.getD i false)) (by simp [List.getElem?_eq_getElem (show i < cs.length by omega)])
  have l0 := hn.lt; have l1 := hp.lt; have l2 := hc.lt; have l3 := hP.lt; have l4 := hC.lt
  have HN := Lib.hid hn
  have hi2 : (i : Int) < n := by omega
  clear hn hp hc hP hC
  generalize ps.getD i false = p at *
  generalize cs.getD i false = q at *
  cases p with
  | true =>
    rw [if_pos rfl]
    go_enter Try.func67, Try.ntmps67
    go_wp2_with fail
    go_ret
    exact ⟨rfl, grown_refl _ _, HN.out⟩
  | false =>
    rw [if_neg (by simp)]
    go_enter Try.func67, Try.ntmps67
    go_wp2_with fail
    go_ret
    exact ⟨rfl, grown_set _ _ _, HN.out.set 0 _⟩

end Go.Proofs.Ytpamkbbmbeeheaa
