/- Contracts of the closures of groups.Order: the place of a group, the comparison of places; of Clone at groups; of the sort of no groups. -/
import Derived.Test.YtnfnoefjgiojoaaSortG
import Derived.Deep.RegionHeld3
namespace Go.Proofs.Ytnfnoefjgiojoaa
open Go.RowKit Go.Maps Go.WideMaps

/-- the first place of a name, the length if there is none -/
def pos : List ByteArray → ByteArray → Nat
  | [], _ => 0
  | x :: r, s => if x = s then 0 else pos r s + 1
/-- the ranks so far -/
def rankF (l : List ByteArray) (s : ByteArray) : Option Value := if s ∈ l then some (.int .i64 (pos l s)) else none

theorem pos_le (l : List ByteArray) (s : ByteArray) : pos l s ≤ l.length := by
  induction l with
  | nil => exact Nat.le_refl _
  | cons x r ih => simp only [pos, List.length_cons]; split <;> omega
theorem pos_lt {l : List ByteArray} {s : ByteArray} (h : s ∈ l) : pos l s < l.length := by
  induction l with
  | nil => cases h
  | cons x r ih =>
    simp only [pos, List.length_cons]
    split
    · omega
    · rename_i hne
      rcases List.mem_cons.1 h with e | e
      · exact absurd e.symm hne
      · have := ih e; omega
theorem pos_none {l : List ByteArray} {s : ByteArray} (h : s ∉ l) : pos l s = l.length := by
  induction l with
  | nil => rfl
  | cons x r ih =>
    simp only [pos, List.length_cons]
    rw [if_neg (fun e => h (by rw [e]; exact List.mem_cons_self ..)), ih (fun e => h (List.mem_cons_of_mem _ e))]
theorem pos_app {l r : List ByteArray} {s : ByteArray} (h : s ∈ l) : pos (l ++ r) s = pos l s := by
  induction l with
  | nil => cases h
  | cons x l ih =>
    simp only [List.cons_append, pos]
    split
    · rfl
    · rename_i hne
      rcases List.mem_cons.1 h with e | e
      · exact absurd e.symm hne
      · rw [ih e]
theorem pos_new {l r : List ByteArray} {s : ByteArray} (h : s ∉ l) : pos (l ++ s :: r) s = l.length := by
  induction l with
  | nil => simp [pos]
  | cons x l ih =>
    simp only [List.cons_append, pos, List.length_cons]
    rw [if_neg (fun e => h (by rw [e]; exact List.mem_cons_self ..)), ih (fun e => h (List.mem_cons_of_mem _ e))]
theorem rankF_put {l : List ByteArray} {s : ByteArray} (h : s ∉ l) (x : ByteArray) : rankF (l ++ [s]) x = if x = s then some (.int .i64 (l.length : Int)) else rankF l x := by
  unfold rankF
  by_cases e : x = s
  · subst e
    rw [if_pos (by simp), if_pos rfl, pos_new h]
  · rw [if_neg e]
    by_cases hx : x ∈ l
    · rw [if_pos (by simp [hx]), if_pos hx, pos_app hx]
    · rw [if_neg (by simp [hx, e]), if_neg hx]

theorem zero_int (w : World) : (zeroValue 3).run Try.prog w = .ok (.int .i64 0) w := by kernel_rfl

/-- a value is returned, and S holds -/
def RetKeep (v : Value) (S : World → Prop) (e : Ending) (w' : World) : Prop := e = .returned v ∧ S w'

/-- what the closures read: the box of the place function, of the ranks, of the names -/
structure PMem (pb rb nb mb k : Nat) (N : Option Addr) (kc : Nat) (names : List ByteArray) (W : World) : Prop where
  p : W.cell? ⟨pb, 0, none⟩ = some (.func (.func 28) #[] #[.pointer (some ⟨rb, 0, none⟩), .pointer (some ⟨nb, 0, none⟩)])
  r : W.cell? ⟨rb, 0, none⟩ = some (.map (some mb))
  n : W.cell? ⟨nb, 0, none⟩ = some (.slice N names.length kc)
  m : MapS Try.prog 9 W mb k (rankF names)
theorem PMem.below {pb rb nb mb k : Nat} {N : Option Addr} {kc : Nat} {names : List ByteArray} {W W' : World} (h : PMem pb rb nb mb k N kc names W) (hb : Below W.heap.size W W') : PMem pb rb nb mb k N kc names W' :=
  ⟨(hb.cell (World.block_lt_of_cell? W _ h.p)).trans h.p, (hb.cell (World.block_lt_of_cell? W _ h.r)).trans h.r, (hb.cell (World.block_lt_of_cell? W _ h.n)).trans h.n, h.m.below hb⟩
theorem PMem.grown {pb rb nb mb k g : Nat} {N : Option Addr} {kc : Nat} {names : List ByteArray} {W W' : World} (h : PMem pb rb nb mb k N kc names W) (hg : W.grownBy W' (some g)) (h1 : pb ≠ g) (h2 : rb ≠ g) (h3 : nb ≠ g) (h4 : mb ≠ g) : PMem pb rb nb mb k N kc names W' :=
  ⟨hg.cell h.p (by simpa using h1), hg.cell h.r (by simpa using h2), hg.cell h.n (by simpa using h3), h.m.kept hg (by simpa using h4)⟩

theorem place_any (pb rb nb mb k : Nat) (N : Option Addr) (kc : Nat) (names : List ByteArray) (x : Grp) (W : World) (h : PMem pb rb nb mb k N kc names W) (hs : x.name.size ≤ 9223372036854775807) :
    Calls Try.prog 28 #[gv x, .pointer (some ⟨rb, 0, none⟩), .pointer (some ⟨nb, 0, none⟩)] W (RetInt (pos names x.name) W) := by
  obtain ⟨nm, lo, hi⟩ := x
  dsimp only at *
  unfold gv
  have hr := h.r; have hn := h.n
  have lr := World.block_lt_of_cell? W _ hr
  have ln := World.block_lt_of_cell? W _ hn
  have HM := Lib.hid h.m
  have BEL := Lib.hid ((Below.refl W.heap.size W).alloc (Nat.le_refl _) (.cells #[.string nm, .int .i64 lo, .int .i64 hi] 36))
  clear h
  dsimp only at lr ln ⊢
  by_cases hin : nm ∈ names
  · have HV := Lib.hid (show rankF names nm = some (.int .i64 (pos names nm)) by unfold rankF; rw [if_pos hin])
    go_enter Try.func28, Try.ntmps28
    go_wp2_with (at_lookup; refine wpList_lookOk rfl _ _ 58 rfl (HM.out.alloc _) law_str Try.underlying58 (zero_int _) rfl rfl (sok_of hs) (key_str hs) ?_; rw [HV.out]; simp only [Option.getD_some, Option.isSome_some])
    go_ret
    exact ⟨rfl, BEL.out⟩
  · have HV := Lib.hid (show rankF names nm = none by unfold rankF; rw [if_neg hin])
    have HP := Lib.hid (pos_none hin)
    go_enter Try.func28, Try.ntmps28
    go_wp2_with (at_lookup; refine wpList_lookOk rfl _ _ 58 rfl (HM.out.alloc _) law_str Try.underlying58 (zero_int _) rfl rfl (sok_of hs) (key_str hs) ?_; rw [HV.out]; simp only [Option.getD_none, Option.isSome_none])
    go_ret
    exact ⟨ret_int (by rw [HP.out]), BEL.out⟩

set_option maxRecDepth 100000 in
set_option maxHeartbeats 3200000 in
theorem cmpG_any (pb rb nb mb k : Nat) (N : Option Addr) (kc : Nat) (names : List ByteArray) (x y : Grp) (W : World) (h : PMem pb rb nb mb k N kc names W) (hx : x.name.size ≤ 9223372036854775807) (hy : y.name.size ≤ 9223372036854775807) (hbig : names.length ≤ 1048576) :
    Calls Try.prog 31 #[gv x, gv y, .pointer (some ⟨pb, 0, none⟩)] W (RetCmp ((pos names x.name : Int) < (pos names y.name : Int)) W) := by
  have C1 := Lib.hid (fun W' (hb : Below W.heap.size W W') => (place_any pb rb nb mb k N kc names x W' (h.below hb) hx))
  have C2 := Lib.hid (fun W' (hb : Below W.heap.size W W') => (place_any pb rb nb mb k N kc names y W' (h.below hb) hy))
  have hp := h.p
  have lp := World.block_lt_of_cell? W _ hp
  have hpx := pos_le names x.name
  have hpy := pos_le names y.name
  obtain ⟨n1, lo1, hi1⟩ := x
  obtain ⟨n2, lo2, hi2⟩ := y
  dsimp only at *
  unfold gv at *
  dsimp only at *
  clear h
  generalize pos names n1 = p1 at *
  generalize pos names n2 = p2 at *
  go_enter Try.func31, Try.ntmps31
  go_wp2_with fail
  have B0 : Below W.heap.size W ((W.alloc (.cells #[.string n1, .int .i64 lo1, .int .i64 hi1] 36)).alloc (.cells #[.string n2, .int .i64 lo2, .int .i64 hi2] 36)) := ((Below.refl _ _).alloc (Nat.le_refl _) _).alloc (by simp) _
  have s0 : ((W.alloc (.cells #[.string n1, .int .i64 lo1, .int .i64 hi1] 36)).alloc (.cells #[.string n2, .int .i64 lo2, .int .i64 hi2] 36)).heap.size = W.heap.size + 2 := by simp
  have a1 : ((W.alloc (.cells #[.string n1, .int .i64 lo1, .int .i64 hi1] 36)).alloc (.cells #[.string n2, .int .i64 lo2, .int .i64 hi2] 36)).cell? ⟨W.heap.size, 0, none⟩ = some (.string n1) := by simp
  have a2 : ((W.alloc (.cells #[.string n1, .int .i64 lo1, .int .i64 hi1] 36)).alloc (.cells #[.string n2, .int .i64 lo2, .int .i64 hi2] 36)).cell? ⟨W.heap.size, 1, none⟩ = some (.int .i64 lo1) := by simp
  have a3 : ((W.alloc (.cells #[.string n1, .int .i64 lo1, .int .i64 hi1] 36)).alloc (.cells #[.string n2, .int .i64 lo2, .int .i64 hi2] 36)).cell? ⟨W.heap.size, 2, none⟩ = some (.int .i64 hi1) := by simp
  have b1 : ((W.alloc (.cells #[.string n1, .int .i64 lo1, .int .i64 hi1] 36)).alloc (.cells #[.string n2, .int .i64 lo2, .int .i64 hi2] 36)).cell? ⟨W.heap.size + 1, 0, none⟩ = some (.string n2) := by simp
  have b2 : ((W.alloc (.cells #[.string n1, .int .i64 lo1, .int .i64 hi1] 36)).alloc (.cells #[.string n2, .int .i64 lo2, .int .i64 hi2] 36)).cell? ⟨W.heap.size + 1, 1, none⟩ = some (.int .i64 lo2) := by simp
  have b3 : ((W.alloc (.cells #[.string n1, .int .i64 lo1, .int .i64 hi1] 36)).alloc (.cells #[.string n2, .int .i64 lo2, .int .i64 hi2] 36)).cell? ⟨W.heap.size + 1, 2, none⟩ = some (.int .i64 hi2) := by simp
  obtain ⟨W0, hW0⟩ : ∃ W0, (W.alloc (.cells #[.string n1, .int .i64 lo1, .int .i64 hi1] 36)).alloc (.cells #[.string n2, .int .i64 lo2, .int .i64 hi2] 36) = W0 := ⟨_, rfl⟩
  rw [hW0] at B0 s0 a1 a2 a3 b1 b2 b3 ⊢
  clear hW0
  have p0 := (B0.cell (p := ⟨pb, 0, none⟩) lp).trans hp
  have hx0 : W.heap.size < W0.heap.size := by omega
  have hx1 : W.heap.size + 1 < W0.heap.size := by omega
  have hx2 : pb < W0.heap.size := by omega
  have KEEP := Lib.hid (show ∀ W', Below W0.heap.size W0 W' → W'.cell? ⟨pb, 0, none⟩ = some (.func (.func 28) #[] #[.pointer (some ⟨rb, 0, none⟩), .pointer (some ⟨nb, 0, none⟩)]) ∧ W'.cell? ⟨W.heap.size, 0, none⟩ = some (.string n1) ∧ W'.cell? ⟨W.heap.size, 1, none⟩ = some (.int .i64 lo1) ∧ W'.cell? ⟨W.heap.size, 2, none⟩ = some (.int .i64 hi1) ∧ W'.cell? ⟨W.heap.size + 1, 0, none⟩ = some (.string n2) ∧ W'.cell? ⟨W.heap.size + 1, 1, none⟩ = some (.int .i64 lo2) ∧ W'.cell? ⟨W.heap.size + 1, 2, none⟩ = some (.int .i64 hi2) ∧ Below W0.heap.size W0 W' from fun W' hb => ⟨(hb.cell (p := ⟨pb, 0, none⟩) hx2).trans p0, (hb.cell (p := ⟨W.heap.size, 0, none⟩) hx0).trans a1, (hb.cell (p := ⟨W.heap.size, 1, none⟩) hx0).trans a2, (hb.cell (p := ⟨W.heap.size, 2, none⟩) hx0).trans a3, (hb.cell (p := ⟨W.heap.size + 1, 0, none⟩) hx1).trans b1, (hb.cell (p := ⟨W.heap.size + 1, 1, none⟩) hx1).trans b2, (hb.cell (p := ⟨W.heap.size + 1, 2, none⟩) hx1).trans b3, hb⟩)
  have D1 := Lib.hid (fun W' (hb : Below W0.heap.size W0 W') => (C1.out W' (B0.trans (hb.mono B0.size))).mono (R' := RetKeep (.int .i64 (p1 : Int)) (fun W' => W'.cell? ⟨pb, 0, none⟩ = some (.func (.func 28) #[] #[.pointer (some ⟨rb, 0, none⟩), .pointer (some ⟨nb, 0, none⟩)]) ∧ W'.cell? ⟨W.heap.size, 0, none⟩ = some (.string n1) ∧ W'.cell? ⟨W.heap.size, 1, none⟩ = some (.int .i64 lo1) ∧ W'.cell? ⟨W.heap.size, 2, none⟩ = some (.int .i64 hi1) ∧ W'.cell? ⟨W.heap.size + 1, 0, none⟩ = some (.string n2) ∧ W'.cell? ⟨W.heap.size + 1, 1, none⟩ = some (.int .i64 lo2) ∧ W'.cell? ⟨W.heap.size + 1, 2, none⟩ = some (.int .i64 hi2) ∧ Below W0.heap.size W0 W')) (fun e W'' ⟨he, hb'⟩ => ⟨he, KEEP.out _ (hb.trans (hb'.mono hb.size))⟩))
  have D2 := Lib.hid (fun W' (hb : Below W0.heap.size W0 W') => (C2.out W' (B0.trans (hb.mono B0.size))).mono (R' := RetKeep (.int .i64 (p2 : Int)) (fun W' => W'.cell? ⟨pb, 0, none⟩ = some (.func (.func 28) #[] #[.pointer (some ⟨rb, 0, none⟩), .pointer (some ⟨nb, 0, none⟩)]) ∧ W'.cell? ⟨W.heap.size, 0, none⟩ = some (.string n1) ∧ W'.cell? ⟨W.heap.size, 1, none⟩ = some (.int .i64 lo1) ∧ W'.cell? ⟨W.heap.size, 2, none⟩ = some (.int .i64 hi1) ∧ W'.cell? ⟨W.heap.size + 1, 0, none⟩ = some (.string n2) ∧ W'.cell? ⟨W.heap.size + 1, 1, none⟩ = some (.int .i64 lo2) ∧ W'.cell? ⟨W.heap.size + 1, 2, none⟩ = some (.int .i64 hi2) ∧ Below W0.heap.size W0 W')) (fun e W'' ⟨he, hb'⟩ => ⟨he, KEEP.out _ (hb.trans (hb'.mono hb.size))⟩))
  have R0 : Below W0.heap.size W0 W0 := Below.refl _ _
  clear C1 C2 s0 hp lp
  have w1 : IntKind.i64.wrap ((p1 : Int) - (p2 : Int)) = (p1 : Int) - (p2 : Int) := IntWalk.i64_in _ (by omega)
  go_region_held3 (fun W' => W'.cell? ⟨pb, 0, none⟩ = some (.func (.func 28) #[] #[.pointer (some ⟨rb, 0, none⟩), .pointer (some ⟨nb, 0, none⟩)]) ∧ W'.cell? ⟨W.heap.size, 0, none⟩ = some (.string n1) ∧ W'.cell? ⟨W.heap.size, 1, none⟩ = some (.int .i64 lo1) ∧ W'.cell? ⟨W.heap.size, 2, none⟩ = some (.int .i64 hi1) ∧ W'.cell? ⟨W.heap.size + 1, 0, none⟩ = some (.string n2) ∧ W'.cell? ⟨W.heap.size + 1, 1, none⟩ = some (.int .i64 lo2) ∧ W'.cell? ⟨W.heap.size + 1, 2, none⟩ = some (.int .i64 hi2) ∧ Below W0.heap.size W0 W')
    (first | (go_split_ands; refine ⟨?_, ?_, ?_, ?_, ?_, ?_, ?_, ?_⟩ <;> first | assumption | exact Below.drew (by assumption) | go_keep))
    (first | (go_at_call 28; go_split_ands; (with_reducible refine (D1.out _ (by assumption)).mono ?_); rintro e w6 ⟨rfl, hS6⟩) | (go_at_call 28; go_split_ands; (with_reducible refine (D2.out _ (by assumption)).mono ?_); rintro e w6 ⟨rfl, hS6⟩))
  all_goals
    clear w1
    go_wp2_with fail
    go_ret
    refine ⟨(p1 : Int) - (p2 : Int), ?_, by omega, B0.trans (hS6.2.2.2.2.2.2.2.mono B0.size)⟩
    first | rfl | simp

theorem cmps_of {g pb rb nb mb k : Nat} {N : Option Addr} {kc : Nat} {names : List ByteArray} {w : World} (h : PMem pb rb nb mb k N kc names w) (hbig : names.length ≤ 1048576) (h1 : pb ≠ g) (h2 : rb ≠ g) (h3 : nb ≠ g) (h4 : mb ≠ g) :
    Cmps g pb w (fun x => (pos names x.name : Int)) := fun W hW x y hx hy => cmpG_any pb rb nb mb k N kc names x y W (h.grown hW h1 h2 h3 h4) hx hy hbig

/-- the sort of no groups -/
theorem sortG_none (A : Option Addr) (c B : Nat) (w : World) :
    Calls Try.prog 30 #[.slice A 0 c, .func (.func 31) #[] #[.pointer (some ⟨B, 0, none⟩)]] w (fun e w' => e = .returned (.tuple #[]) ∧ w = w') := by
  have C : Calls Try.prog 59 #[.slice A 0 c, .int .i64 0, .int .i64 0, .func (.func 31) #[] #[.pointer (some ⟨B, 0, none⟩)]] w (fun e w' => e = .returned (.tuple #[]) ∧ w = w') := by
    go_enter Try.func59, Try.ntmps59
    go_wp2_with fail
    refine wp_loop_rounds 1 ?_
    rw [rounds_succ]
    go_wp2_with fail
    go_end0
    exact ⟨rfl, rfl⟩
  have HC := Lib.hid C
  clear C
  have D : Calls Try.prog 47 #[.slice A 0 c, .int .i64 0, .func (.func 31) #[] #[.pointer (some ⟨B, 0, none⟩)]] w (fun e w' => e = .returned (.tuple #[]) ∧ w = w') := by
    go_enter Try.func47, Try.ntmps47
    go_wp2_with fail
    refine wp_loop_rounds 1 ?_
    rw [rounds_succ]
    go_wp2_with fail
    refine HC.out.mono ?_
    rintro e w1 ⟨rfl, rfl⟩
    go_wp2_with fail
    refine wp_loop_rounds 1 ?_
    rw [rounds_succ]
    go_wp2_with fail
    go_end0
    exact ⟨rfl, rfl⟩
  have HD := Lib.hid D
  clear D HC
  go_enter Try.func30, Try.ntmps30
  go_wp2_with fail
  refine HD.out.mono ?_
  rintro e w1 ⟨rfl, rfl⟩
  go_wp2_with fail
  go_end0
  exact ⟨rfl, rfl⟩

theorem info_group : (Try.prog.info? 36).map (fun i => (i.zero, i.size, i.bytes)) = some (some (.agg #[.string .empty, .int .i64 0, .int .i64 0]), 3, 32) := by kernel_rfl

theorem oneCell_grps (gs : List Grp) : ∀ u ∈ flatK Grp.cells gs, u.oneCell' = true := by
  intro u hu
  obtain ⟨g, _, hg⟩ := List.mem_flatMap.1 hu
  simp only [Grp.cells, List.mem_cons, List.not_mem_nil, or_false] at hg
  rcases hg with rfl | rfl | rfl <;> rfl

/-- groups are copied into a row that the caller owns -/
def RetOwnG (gs : List Grp) (w : World) (e : Ending) (w' : World) : Prop := ∃ A c, e = .returned (.slice A gs.length c) ∧ w'.ownsRow w.heap.size 36 3 (.slice A gs.length c) gs.length (flatK Grp.cells gs) ∧ Below w.heap.size w w'

theorem cloneG_any (A : Option Addr) (n k : Nat) (gs : List Grp) (w : World) (hA : Grps w A gs) (hn : gs.length = n) (hb : n ≤ 1048576) :
    Calls Try.prog 29 #[.slice A n k] w (RetOwnG gs w) := by
  subst hn
  cases A with
  | none =>
    have hz : gs = [] := by
      cases gs with
      | nil => rfl
      | cons z r => obtain ⟨b, o, h, _⟩ := hA.at (m := 0) (by simp); cases h
    subst hz
    have hnil := fun (W : World) n c => Lib.run_eql_slice_nil (P := Try.prog) W 23 36 none n c 0 0 Try.underlying23
    go_enter Try.func29, Try.ntmps29
    go_wp2
    go_ret
    exact ⟨none, 0, rfl, World.ownsRow_nil _ _ _ _, Below.refl _ _⟩
  | some a =>
    have hnil := fun (W : World) n c => Lib.run_eql_slice_nil (P := Try.prog) W 23 36 (some a) n c 0 0 Try.underlying23
    go_enter Try.func29, Try.ntmps29
    go_wp2_with (at_builtin; refine wpList_app _ _ 23 36 (.agg #[.string .empty, .int .i64 0, .int .i64 0]) 3 32 rfl rfl Try.underlying23 info_group rfl (by decide) (by decide) rfl (own_new [] 36 3 0 w.heap.size rfl rfl (Nat.le_refl _) (by omega)) rfl (Sl.alloc hA _) (flatK_len Grp.cells 3 (fun _ => rfl) gs) (oneCell_grps _) (by omega) (by simp) ?_; intro A1 c1 w1 hown1 hc1 hb1 _ _; simp only [Nat.zero_add, List.nil_append] at hown1 hc1)
    go_ret
    exact ⟨A1, c1, rfl, hown1, ((Below.refl _ _).alloc (Nat.le_refl _) _).trans hb1⟩

end Go.Proofs.Ytnfnoefjgiojoaa
