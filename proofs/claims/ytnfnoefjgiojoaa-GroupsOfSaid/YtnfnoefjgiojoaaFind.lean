/- The contracts of colltable's table.find and Find. Written by gen_find.py. -/
import Derived.Test.YtnfnoefjgiojoaaMade
import Derived.Test.YtnfnoefjgiojoaaClone
namespace Go.Proofs.Ytnfnoefjgiojoaa
open Go.RowKit Go.Maps Go.WideMaps

def RetFind (r : Option (List Elt)) (w : World) (e : Ending) (w' : World) : Prop := ∃ E d, e = .returned (.tuple #[.slice E (r.getD []).length d, .bool r.isSome]) ∧ Elts w' E (r.getD []) ∧ Below w.heap.size w w'
theorem zero_elts (w : World) : (zeroValue 47).run Try.prog w = .ok (.slice none 0 0) w := by kernel_rfl
theorem TabF.at {w : World} {f : List Int → Option Value} {es : List Ent} (h : TabF w f es) {zs : List Int} (hz : kok zs) :
    ∃ E d, (f zs).getD (.slice none 0 0) = .slice E ((lastE es zs).getD []).length d ∧ (f zs).isSome = (lastE es zs).isSome ∧ Elts w E ((lastE es zs).getD []) := by
  have := h zs hz
  cases hl : lastE es zs with
  | none => rw [hl] at this; simp only at this; rw [this]; exact ⟨none, 0, rfl, rfl, Sl.nil _ _⟩
  | some e =>
    rw [hl] at this
    obtain ⟨E, d, h1, h2⟩ := this
    rw [h1]
    exact ⟨E, d, rfl, rfl, h2⟩
theorem lastE_short {es : List Ent} (h : ∀ x ∈ es, 1 ≤ x.codes.length) : lastE es [] = none := by
  cases hl : lastE es [] with
  | none => rfl
  | some e =>
    obtain ⟨x, hx, h1, _⟩ := lastE_mem hl
    have := h x hx
    rw [h1] at this
    simp at this
theorem lastE_long {es : List Ent} {zs : List Int} (h : longE es < (zs.length : Int)) : lastE es zs = none := by
  cases hl : lastE es zs with
  | none => rfl
  | some e =>
    obtain ⟨x, hx, h1, _⟩ := lastE_mem hl
    have := longE_ge hx
    rw [h1] at this
    omega

section
variable {P : Program} {ops : Array Oper} {Q : Exit → Act → World → Prop} {md : Region.Mode} {S : World → Prop}
/-- a look into a map, in every world that meets S -/
theorem anyH_lookOk {κ : Type} {k : TypeId} {kl : κ → Lit} {ok : κ → Prop} {b n : Nat} {f : κ → Option Value} {i : Nat} {oi : Oper} {v : Value} {fuel : Nat} {listed : Array Bool} {a : Act} {w : World} (d : Option Tmp) (hi : ops[i]? = some oi) (hd : oi.dst = d)
    (hs : Region.noSelect ops = true) (hf : Region.free md ops listed i = true) (hr : (Region.ready md ops listed).contains i = true)
    (hQ : ∀ c a w, Q (.panic c) (a.put d v) w → Q (.panic c) a w) (hw : Region.wanted oi (yielded ops a.tmps) = true) (hS : S w)
    (m y : Operand) (t : TypeId) (hop : oi.op = Op.lookup t m y true) {e : TypeId} (h : ∀ w, S w → MapIs P k kl ok w b n f) (K : Keyed P k) (ht : P.underlying t = some (.map k e)) {z : Value} (hz : ∀ w, (zeroValue e).run P w = .ok z w)
    (hm : a.eval m = .map (some b)) {key : Value} {x : κ} (hy : a.eval y = key) (hx : ok x) (hkey : keyOf P k key = some (kl x)) (hv : .tuple #[(f x).getD z, .bool (f x).isSome] = v)
    (hK : wpAnyH P md ops Q S fuel (listed.setIfInBounds i true) (a.put d v) w) : wpAnyH P md ops Q S (fuel + 1) listed a w := by
  subst hv
  refine anyH_take d hi hd hs hf hr hQ hw hS (fun w' hS' => ?_) hK
  simp [execOp, hop, hm, hy, (h w' hS').lookOk K ht (hz w') hx hkey, Result.andThen]
end

set_option maxRecDepth 100000 in
set_option maxHeartbeats 6400000 in
theorem find_any (T : Nat) (c : Col) (cl : Value) (top : Int) (C : Option Addr) (n cc : Nat) (zs : List Int) (w : World) (hT : TabAt w T c cl top) (hC : Ints w C zs) (hn : zs.length = n) (hn2 : n ≤ 1048576)
    (hE : ∀ x ∈ c.ents, 1 ≤ x.codes.length ∧ x.codes.length ≤ 8) (hw : ∀ z ∈ zs, (Lit.int .i64 z).wf = true) :
    Calls Try.prog 57 #[.pointer (some ⟨T, 0, none⟩), .slice C n cc] w (RetFind (lastE c.ents zs) w) := by
  obtain ⟨A, n', a, B, m, b, M, k, f, hX, hCol, hM, hTF⟩ := hT.ex
  subst hn
  have t5 := hX.cell (i := 5) (v := .map (some M)) rfl
  have t6 := hX.cell (i := 6) (v := .int .i64 (longE c.ents)) rfl
  have hlt := hX.lt
  have LB := longE_bd (k := 8) (fun x hx => (hE x hx).2)
  have L1 := Lib.hid (lastE_short (fun x hx => (hE x hx).1))
  have L2 := Lib.hid (lastE_long (es := c.ents) (zs := zs))
  have HAT := Lib.hid (fun hk => hTF.at (zs := zs) hk)
  have HM := Lib.hid hM
  have KY := Lib.hid (fun W (hb : Below w.heap.size w W) h1 h8 => keyOf_any C zs.length cc zs W (hC.below hb) rfl h1 h8)
  have HW := Lib.hid hw
  clear hX hCol hTF hM hT hw hE
  by_cases h0 : zs.length = 0
  · have hz : zs = [] := List.length_eq_zero_iff.1 h0
    subst hz
    rw [L1.out]
    clear L1 L2 HAT KY HW
    go_enter Try.func57, Try.ntmps57
    go_wp2_with fail
    go_ret2
    exact ⟨none, 0, rfl, Sl.nil _ _, Below.refl _ _⟩
  by_cases h1 : longE c.ents < (zs.length : Int)
  · rw [L2.out h1]
    clear L1 L2 HAT KY HW
    have q0 : ((zs.length : Int) == 0) = false := by rw [beq_eq_false_iff_ne]; omega
    have q1 : decide (longE c.ents < (zs.length : Int)) = true := by simpa using h1
    generalize longE c.ents = lg at *
    go_enter Try.func57, Try.ntmps57
    go_wp2_with fail
    go_ret2
    exact ⟨none, 0, rfl, Sl.nil _ _, Below.refl _ _⟩
  · have q0 : ((zs.length : Int) == 0) = false := by rw [beq_eq_false_iff_ne]; omega
    have q1 : decide (longE c.ents < (zs.length : Int)) = false := by simpa using h1
    have hkok : kok zs := ⟨by omega, HW.out⟩
    obtain ⟨E, d, v1, v2, hEl⟩ := HAT.out hkok
    have HEL := Lib.hid hEl
    have HV := Lib.hid (And.intro v1 v2)
    have HKK := Lib.hid hkok
    have KY2 := Lib.hid (fun W (hb : Below w.heap.size w W) => (KY.out W hb (by omega) (by omega)).mono (R' := fun e w' => e = .returned (keyV zs) ∧ (w'.cell? ⟨T, 5, none⟩ = some (.map (some M)) ∧ Below w.heap.size w w')) (fun e w' ⟨he, hb'⟩ => by
      have hb2 := hb.trans (hb'.mono hb.size)
      exact ⟨he, (hb2.cell (p := ⟨T, 5, none⟩) hlt).trans t5, hb2⟩))
    clear L1 L2 HAT KY HW hkok v1 v2 hEl
    generalize longE c.ents = lg at *
    generalize lastE c.ents zs = r at *
    go_enter Try.func57, Try.ntmps57
    go_wp2_with fail
    refine wp_region_held_drew (S := fun W' => W'.cell? ⟨T, 5, none⟩ = some (.map (some M)) ∧ Below w.heap.size w W') (by kernel_rfl) ⟨t5, (Below.refl _ _).drew⟩ (fun hHeld => ?_)
    refine anyH_take (i := 0) (v := ?_) (some 21) rfl rfl (by kernel_rfl) (by kernel_rfl) (by kernel_rfl) (fun _ _ _ h => h) (by rfl) (by assumption) ?_ ?_
    rotate_left
    · intro w hSw; (try dsimp only at hSw); go_split_ands; go_simp; try (with_reducible rfl)
    try simp only [Act.put, List.setIfInBounds_toArray, List.set_cons_zero, List.set_cons_succ]
    refine anyH_take (i := 1) (v := ?_) (some 22) rfl rfl (by kernel_rfl) (by kernel_rfl) (by kernel_rfl) (fun _ _ _ h => h) (by rfl) (by assumption) ?_ ?_
    rotate_left
    · intro w hSw; (try dsimp only at hSw); go_split_ands; go_simp; try (with_reducible rfl)
    try simp only [Act.put, List.setIfInBounds_toArray, List.set_cons_zero, List.set_cons_succ]
    refine anyH_take (i := 2) (v := ?_) (some 23) rfl rfl (by kernel_rfl) (by kernel_rfl) (by kernel_rfl) (fun _ _ _ h => h) (by rfl) (by assumption) ?_ ?_
    rotate_left
    · intro w hSw; (try dsimp only at hSw); go_split_ands; go_simp; try (with_reducible rfl)
    try simp only [Act.put, List.setIfInBounds_toArray, List.set_cons_zero, List.set_cons_succ]
    refine anyH_take (i := 3) (v := ?_) (some 24) rfl rfl (by kernel_rfl) (by kernel_rfl) (by kernel_rfl) (fun _ _ _ h => h) (by rfl) (by assumption) ?_ ?_
    rotate_left
    · intro w hSw; (try dsimp only at hSw); go_split_ands; go_simp; try (with_reducible rfl)
    try simp only [Act.put, List.setIfInBounds_toArray, List.set_cons_zero, List.set_cons_succ]
    refine anyH_take (i := 4) (v := ?_) (some 25) rfl rfl (by kernel_rfl) (by kernel_rfl) (by kernel_rfl) (fun _ _ _ h => h) (by rfl) (by assumption) ?_ ?_
    rotate_left
    · intro w hSw; (try dsimp only at hSw); go_split_ands; go_simp; try (with_reducible rfl)
    try simp only [Act.put, List.setIfInBounds_toArray, List.set_cons_zero, List.set_cons_succ]
    refine anyH_call (i := 5) (some 26) rfl rfl (by kernel_rfl) (by rfl) (by go_simp) (KY2.out _ hHeld.2) (fun w6 hS6 => ?_)
    clear hHeld
    have hHeld := hS6
    clear hS6
    try simp only [Act.put, List.setIfInBounds_toArray, List.set_cons_zero, List.set_cons_succ]
    refine anyH_lookOk (v := .tuple #[.slice E (r.getD []).length d, .bool r.isSome]) (i := 6) (some 27) rfl rfl (by kernel_rfl) (by kernel_rfl) (by kernel_rfl) (fun _ _ _ h => h) (by rfl) (by assumption) _ _ _ rfl (fun w' hS' => HM.out.below hS'.2) law_key Try.underlying91 zero_elts rfl rfl HKK.out (key_some HKK.out) (by rw [HV.out.1, HV.out.2]) ?_
    try simp only [Act.put, List.setIfInBounds_toArray, List.set_cons_zero, List.set_cons_succ]
    refine anyH_take (i := 7) (v := ?_) (some 20) rfl rfl (by kernel_rfl) (by kernel_rfl) (by kernel_rfl) (fun _ _ _ h => h) (by rfl) (by assumption) ?_ ?_
    rotate_left
    · intro w hSw; (try dsimp only at hSw); go_split_ands; go_simp; try (with_reducible rfl)
    try simp only [Act.put, List.setIfInBounds_toArray, List.set_cons_zero, List.set_cons_succ]
    refine anyH_take (i := 8) (v := ?_) (some 28) rfl rfl (by kernel_rfl) (by kernel_rfl) (by kernel_rfl) (fun _ _ _ h => h) (by rfl) (by assumption) ?_ ?_
    rotate_left
    · intro w hSw; (try dsimp only at hSw); go_split_ands; go_simp; try (with_reducible rfl)
    try simp only [Act.put, List.setIfInBounds_toArray, List.set_cons_zero, List.set_cons_succ]
    refine anyH_take (i := 9) (v := ?_) (some 29) rfl rfl (by kernel_rfl) (by kernel_rfl) (by kernel_rfl) (fun _ _ _ h => h) (by rfl) (by assumption) ?_ ?_
    rotate_left
    · intro w hSw; (try dsimp only at hSw); go_split_ands; go_simp; try (with_reducible rfl)
    try simp only [Act.put, List.setIfInBounds_toArray, List.set_cons_zero, List.set_cons_succ]
    refine anyH_take (i := 10) (v := ?_) (some 6) rfl rfl (by kernel_rfl) (by kernel_rfl) (by kernel_rfl) (fun _ _ _ h => h) (by rfl) (by assumption) ?_ ?_
    rotate_left
    · intro w hSw; (try dsimp only at hSw); go_split_ands; go_simp; try (with_reducible rfl)
    try simp only [Act.put, List.setIfInBounds_toArray, List.set_cons_zero, List.set_cons_succ]
    refine anyH_take (i := 11) (v := ?_) (some 7) rfl rfl (by kernel_rfl) (by kernel_rfl) (by kernel_rfl) (fun _ _ _ h => h) (by rfl) (by assumption) ?_ ?_
    rotate_left
    · intro w hSw; (try dsimp only at hSw); go_split_ands; go_simp; try (with_reducible rfl)
    try simp only [Act.put, List.setIfInBounds_toArray, List.set_cons_zero, List.set_cons_succ]
    refine wpAnyH_done (by kernel_rfl) ?_ _
    go_wp2_with fail
    go_ret2
    exact ⟨E, d, rfl, HEL.out.below hHeld.2, hHeld.2⟩

theorem valid_ents {c : Col} (h : colErr c = 0) : ∀ x ∈ c.ents, 1 ≤ x.codes.length ∧ x.codes.length ≤ 8 := fun x hx => by
  have := ent_codes (ents_ok (col_ents h) x hx)
  exact ⟨this.1, this.2.1⟩
theorem last_len {c : Col} (h : colErr c = 0) (zs : List Int) : ((lastE c.ents zs).getD []).length ≤ 16 := by
  cases hl : lastE c.ents zs with
  | none => simp
  | some e =>
    obtain ⟨x, hx, _, h2⟩ := lastE_mem hl
    have := (ent_codes (ents_ok (col_ents h) x hx)).2.2.1
    rw [h2] at this
    exact this

set_option maxRecDepth 100000 in
set_option maxHeartbeats 3200000 in
theorem Find_ok (A : Option Addr) (n a : Nat) (B : Option Addr) (m b : Nat) (c : Col) (C : Option Addr) (kn kc : Nat) (zs : List Int) (w : World) (h : ColAt w A n B m c) (hz : ColSz c) (he : colErr c = 0)
    (hC : Ints w C zs) (hn : zs.length = kn) (hn2 : kn ≤ 1048576) (hw : ∀ z ∈ zs, (Lit.int .i64 z).wf = true) :
    Calls Try.prog 44 #[colV A n a B m b c, .slice C kn kc] w (RetFind (lastE c.ents zs) w) := by
  have B0 : Below w.heap.size w (w.alloc (.cells #[.slice A n a, .slice B m b, .int .i64 c.base, .int .i64 c.second, .int .i64 c.third] 25)) := (Below.refl _ _).alloc (Nat.le_refl _) _
  have k0 : (w.alloc (.cells #[.slice A n a, .slice B m b, .int .i64 c.base, .int .i64 c.second, .int .i64 c.third] 25)).cell? ⟨w.heap.size, 0, none⟩ = some (.slice A n a) := by simp
  have k1 : (w.alloc (.cells #[.slice A n a, .slice B m b, .int .i64 c.base, .int .i64 c.second, .int .i64 c.third] 25)).cell? ⟨w.heap.size, 1, none⟩ = some (.slice B m b) := by simp
  have k2 : (w.alloc (.cells #[.slice A n a, .slice B m b, .int .i64 c.base, .int .i64 c.second, .int .i64 c.third] 25)).cell? ⟨w.heap.size, 2, none⟩ = some (.int .i64 c.base) := by simp
  have k3 : (w.alloc (.cells #[.slice A n a, .slice B m b, .int .i64 c.base, .int .i64 c.second, .int .i64 c.third] 25)).cell? ⟨w.heap.size, 3, none⟩ = some (.int .i64 c.second) := by simp
  have k4 : (w.alloc (.cells #[.slice A n a, .slice B m b, .int .i64 c.base, .int .i64 c.second, .int .i64 c.third] 25)).cell? ⟨w.heap.size, 4, none⟩ = some (.int .i64 c.third) := by simp
  have W0E : ∃ W0, (w.alloc (.cells #[.slice A n a, .slice B m b, .int .i64 c.base, .int .i64 c.second, .int .i64 c.third] 25)) = W0 := ⟨_, rfl⟩
  have MC := Lib.hid (fun W (hb : Below w.heap.size w W) => made_ok A n a B m b c W (h.below hb) hz he)
  have FC := Lib.hid (fun T W (hb : Below w.heap.size w W) hT => find_any T c (.slice none 0 0) 0 C kn kc zs W hT (hC.below hb) hn hn2 (valid_ents he) hw)
  have HL := last_len he zs
  clear h hz he hC hw
  unfold colV at *
  generalize lastE c.ents zs = r at *
  go_enter Try.func44, Try.ntmps44
  go_wp2_with fail
  obtain ⟨W0, hW0⟩ := W0E
  rw [hW0] at B0 k0 k1 k2 k3 k4 ⊢
  clear hW0
  with_reducible refine (MC.out W0 B0).mono ?_
  rintro e W1 ⟨T, rfl, hT0, hT, hb1⟩
  have hb2 := B0.trans (hb1.mono B0.size)
  have HT := Lib.hid hT
  clear MC hT k0 k1 k2 k3 k4
  go_wp2_with fail
  with_reducible refine (FC.out T W1 hb2 HT.out).mono ?_
  rintro e W2 ⟨E, d, rfl, hE, hb3⟩
  have hb4 := hb2.trans (hb3.mono hb2.size)
  have CE := Lib.hid (cloneE_any E (r.getD []).length d (r.getD []) W2 hE rfl (by omega))
  clear FC hE
  go_wp2_with fail
  with_reducible refine CE.out.mono ?_
  rintro e W3 ⟨E3, d3, rfl, hown, hb5⟩
  have HO := Lib.hid hown
  clear CE hown
  go_wp2_with fail
  go_ret2
  exact ⟨E3, d3, rfl, Sl.of_own HO.out, hb4.trans (hb5.mono hb4.size)⟩

end Go.Proofs.Ytnfnoefjgiojoaa
