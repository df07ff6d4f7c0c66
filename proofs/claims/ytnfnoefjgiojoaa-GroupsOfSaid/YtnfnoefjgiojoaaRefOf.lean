/- The contracts of the reference's weighs and Of. Written by gen_refof.py. -/
import Derived.Test.YtnfnoefjgiojoaaOfPlain
import Derived.Test.YtnfnoefjgiojoaaNames
import Derived.Test.YtnfnoefjgiojoaaQuiet
namespace Go.Proofs.Ytnfnoefjgiojoaa
open Go.RowKit Go.Maps Go.WideMaps

section
variable {P : Program} {ops : Array Oper} {Q : Exit → Act → World → Prop} {md : Region.Mode} {S : World → Prop}
/-- a call whose value is known in part -/
theorem anyH_callE {R : Value → World → Prop} {i : Nat} {oi : Oper} {fuel : Nat} {listed : Array Bool} {a : Act} {w : World} (d : Option Tmp) {f : FuncId} {args : Array Value} (hi : ops[i]? = some oi) (hd : oi.dst = d)
    (hr : Region.ready md ops listed = [i]) (hw : Region.wanted oi (yielded ops a.tmps) = true) (he : (execOp a.eval oi).run P w = .ok (.enter f args) w)
    (hc : Calls P f args w (fun e w' => ∃ v, e = .returned v ∧ S w' ∧ R v w'))
    (h : ∀ v w', S w' → R v w' → wpAnyH P md ops Q S fuel (listed.setIfInBounds i true) (a.put d v) w') : wpAnyH P md ops Q S (fuel + 1) listed a w := by
  subst hd
  refine wpAnyH_ready hr (by simp) (AllReadyH.cons hi (fun K hK => ?_) AllReadyH.nil)
  rw [if_pos hw]
  unfold Oper.wp
  rw [he]
  simp only [Oper.upon]
  refine hc.mono ?_
  rintro e w' ⟨v, rfl, hS', hR'⟩
  exact hK.out _ _ hS' (fun hh => h v w' hh hR')
end

/-- the elements of one code lie in a group -/
def wgh1 (c : Col) (g : Grp) (z : Int) : Bool := ((firstE c.ents [z]).getD []).any (fun e => inR g.lo g.hi e.p)
theorem wgh_yes {c : Col} {g : Grp} {text : List Int} {i : Nat} (hi : i < text.length) (h : wgh1 c g text[i] = true) : wgh c g text = true := anyT hi h
theorem wgh_no {c : Col} {g : Grp} {text : List Int} (h : ∀ t, (ht : t < text.length) → wgh1 c g text[t] = false) : wgh c g text = false := anyF h
theorem first_len {c : Col} (h : colErr c = 0) (zs : List Int) : ((firstE c.ents zs).getD []).length ≤ 16 := by rw [← last_first h]; exact last_len h zs

set_option maxRecDepth 100000 in
set_option maxHeartbeats 6400000 in
theorem weighs_any (A : Option Addr) (n a : Nat) (B : Option Addr) (m b : Nat) (c : Col) (g : Grp) (C : Option Addr) (kn kc : Nat) (text : List Int) (w : World) (h : ColAt w A n B m c) (hz : ColSz c) (he : colErr c = 0)
    (hC : Ints w C text) (hkn : text.length = kn) (hk2 : kn ≤ 1048576) (hkc : kn ≤ kc) :
    Calls Try.prog 46 #[colV A n a B m b c, .agg #[.string g.name, .int .i64 g.lo, .int .i64 g.hi], .slice C kn kc] w (RetBool (wgh c g text) w) := by
  have B0 : Below w.heap.size w ((w.alloc (.cells #[.slice A n a, .slice B m b, .int .i64 c.base, .int .i64 c.second, .int .i64 c.third] 25)).alloc (.cells #[.string g.name, .int .i64 g.lo, .int .i64 g.hi] 36)) := ((Below.refl _ _).alloc (Nat.le_refl _) _).alloc (by simp) _
  have s0 : ((w.alloc (.cells #[.slice A n a, .slice B m b, .int .i64 c.base, .int .i64 c.second, .int .i64 c.third] 25)).alloc (.cells #[.string g.name, .int .i64 g.lo, .int .i64 g.hi] 36)).heap.size = w.heap.size + 2 := by simp
  have k0 : ((w.alloc (.cells #[.slice A n a, .slice B m b, .int .i64 c.base, .int .i64 c.second, .int .i64 c.third] 25)).alloc (.cells #[.string g.name, .int .i64 g.lo, .int .i64 g.hi] 36)).cell? ⟨w.heap.size, 0, none⟩ = some (.slice A n a) := by simp
  have k1 : ((w.alloc (.cells #[.slice A n a, .slice B m b, .int .i64 c.base, .int .i64 c.second, .int .i64 c.third] 25)).alloc (.cells #[.string g.name, .int .i64 g.lo, .int .i64 g.hi] 36)).cell? ⟨w.heap.size, 1, none⟩ = some (.slice B m b) := by simp
  have k2 : ((w.alloc (.cells #[.slice A n a, .slice B m b, .int .i64 c.base, .int .i64 c.second, .int .i64 c.third] 25)).alloc (.cells #[.string g.name, .int .i64 g.lo, .int .i64 g.hi] 36)).cell? ⟨w.heap.size, 2, none⟩ = some (.int .i64 c.base) := by simp
  have k3 : ((w.alloc (.cells #[.slice A n a, .slice B m b, .int .i64 c.base, .int .i64 c.second, .int .i64 c.third] 25)).alloc (.cells #[.string g.name, .int .i64 g.lo, .int .i64 g.hi] 36)).cell? ⟨w.heap.size, 3, none⟩ = some (.int .i64 c.second) := by simp
  have k4 : ((w.alloc (.cells #[.slice A n a, .slice B m b, .int .i64 c.base, .int .i64 c.second, .int .i64 c.third] 25)).alloc (.cells #[.string g.name, .int .i64 g.lo, .int .i64 g.hi] 36)).cell? ⟨w.heap.size, 4, none⟩ = some (.int .i64 c.third) := by simp
  have l0 : ((w.alloc (.cells #[.slice A n a, .slice B m b, .int .i64 c.base, .int .i64 c.second, .int .i64 c.third] 25)).alloc (.cells #[.string g.name, .int .i64 g.lo, .int .i64 g.hi] 36)).cell? ⟨w.heap.size + 1, 0, none⟩ = some (.string g.name) := by simp
  have l1 : ((w.alloc (.cells #[.slice A n a, .slice B m b, .int .i64 c.base, .int .i64 c.second, .int .i64 c.third] 25)).alloc (.cells #[.string g.name, .int .i64 g.lo, .int .i64 g.hi] 36)).cell? ⟨w.heap.size + 1, 1, none⟩ = some (.int .i64 g.lo) := by simp
  have l2 : ((w.alloc (.cells #[.slice A n a, .slice B m b, .int .i64 c.base, .int .i64 c.second, .int .i64 c.third] 25)).alloc (.cells #[.string g.name, .int .i64 g.lo, .int .i64 g.hi] 36)).cell? ⟨w.heap.size + 1, 2, none⟩ = some (.int .i64 g.hi) := by simp
  have W0E : ∃ W0, ((w.alloc (.cells #[.slice A n a, .slice B m b, .int .i64 c.base, .int .i64 c.second, .int .i64 c.third] 25)).alloc (.cells #[.string g.name, .int .i64 g.lo, .int .i64 g.hi] 36)) = W0 := ⟨_, rfl⟩
  have FC := Lib.hid (fun W (hb : Below w.heap.size w W) C' k' z (hC' : Ints W C' [z]) => refFind_ok A n a B m b c C' 1 k' [z] W (h.below hb) hz he hC' rfl (by omega))
  have HTX := Lib.hid hC
  have LL := Lib.hid (fun z => first_len he [z])
  have WY := Lib.hid (fun i hi hh => wgh_yes (c := c) (g := g) (text := text) (i := i) hi hh)
  have WN := Lib.hid (wgh_no (c := c) (g := g) (text := text))
  clear h hz he hC
  unfold colV at *
  generalize wgh c g text = r at *
  subst hkn
  go_enter Try.func46, Try.ntmps46
  go_wp2_with fail
  obtain ⟨W0, hW0⟩ := W0E
  rw [hW0] at B0 s0 k0 k1 k2 k3 k4 l0 l1 l2 ⊢
  clear hW0
  have hx0 : w.heap.size < W0.heap.size := by omega
  have hx1 : w.heap.size + 1 < W0.heap.size := by omega
  have KEEP := Lib.hid (show ∀ W', Below W0.heap.size W0 W' → W'.cell? ⟨w.heap.size, 0, none⟩ = some (.slice A n a) ∧ W'.cell? ⟨w.heap.size, 1, none⟩ = some (.slice B m b) ∧ W'.cell? ⟨w.heap.size, 2, none⟩ = some (.int .i64 c.base) ∧ W'.cell? ⟨w.heap.size, 3, none⟩ = some (.int .i64 c.second) ∧ W'.cell? ⟨w.heap.size, 4, none⟩ = some (.int .i64 c.third) from fun W' hb => ⟨(hb.cell (p := ⟨w.heap.size, 0, none⟩) hx0).trans k0, (hb.cell (p := ⟨w.heap.size, 1, none⟩) hx0).trans k1, (hb.cell (p := ⟨w.heap.size, 2, none⟩) hx0).trans k2, (hb.cell (p := ⟨w.heap.size, 3, none⟩) hx0).trans k3, (hb.cell (p := ⟨w.heap.size, 4, none⟩) hx0).trans k4⟩)
  have KEEG := Lib.hid (show ∀ W', Below W0.heap.size W0 W' → W'.cell? ⟨w.heap.size + 1, 0, none⟩ = some (.string g.name) ∧ W'.cell? ⟨w.heap.size + 1, 1, none⟩ = some (.int .i64 g.lo) ∧ W'.cell? ⟨w.heap.size + 1, 2, none⟩ = some (.int .i64 g.hi) from fun W' hb => ⟨(hb.cell (p := ⟨w.heap.size + 1, 0, none⟩) hx1).trans l0, (hb.cell (p := ⟨w.heap.size + 1, 1, none⟩) hx1).trans l1, (hb.cell (p := ⟨w.heap.size + 1, 2, none⟩) hx1).trans l2⟩)
  clear k0 k1 k2 k3 k4 l0 l1 l2
  go_loopw [7] (fun u wr => ∃ i : Nat, i ≤ text.length ∧ u = .int .i64 i ∧ (∀ t, (ht : t < text.length) → t < i → wgh1 c g text[t] = false) ∧ Below W0.heap.size W0 wr) (fun u _ => text.length - (intOf u).toNat)
  case atStart => exact ⟨0, Nat.zero_le _, rfl, fun t _ h => by omega, Below.refl _ _⟩
  case round =>
    obtain ⟨i, hi, rfl, hno, hbr⟩ := hrel
    have HNO := Lib.hid hno
    clear hno
    have hbw := B0.trans (hbr.mono B0.size)
    by_cases hlt : i < text.length
    · obtain ⟨bt, ot, rfl, hct⟩ := (HTX.out.below hbw).at hlt
      have HIX := Lib.hid (show Ints wr (some ⟨bt, ot + i, none⟩) [text[i]] by
        intro _
        refine ⟨bt, ot + i, rfl, fun j u hu => ?_⟩
        obtain ⟨hj, hj2⟩ := List.getElem?_eq_some_iff.1 hu
        have hj0 : j = 0 := by simp at hj; omega
        subst hj0
        simp at hj2
        rw [← hj2]
        exact hct i hlt)
      have HY := Lib.hid (fun hh => WY.out i hlt hh)
      have HN := Lib.hid (fun hh => all_up (P := fun z => wgh1 c g z = false) hlt HNO.out hh)
      have hll := LL.out text[i]
      obtain ⟨f0, f1, f2, f3, f4⟩ := KEEP.out wr hbr
      clear hct
      have HW1 := Lib.hid (show wgh1 c g text[i] = ((firstE c.ents [text[i]]).getD []).any (fun e => inR g.lo g.hi e.p) from rfl)
      generalize text[i] = x at *
      have FC1 := Lib.hid (fun W' (hb : Below wr.heap.size wr W') => (FC.out W' (hbw.trans (hb.mono hbw.size)) (some ⟨bt, ot + i, none⟩) (kc - i) x (HIX.out.below hb)).mono (R' := fun e w' => ∃ v, e = .returned v ∧ ((w'.cell? ⟨w.heap.size, 0, none⟩ = some (.slice A n a) ∧ w'.cell? ⟨w.heap.size, 1, none⟩ = some (.slice B m b) ∧ w'.cell? ⟨w.heap.size, 2, none⟩ = some (.int .i64 c.base) ∧ w'.cell? ⟨w.heap.size, 3, none⟩ = some (.int .i64 c.second) ∧ w'.cell? ⟨w.heap.size, 4, none⟩ = some (.int .i64 c.third)) ∧ Below wr.heap.size wr w') ∧ (∃ E d, v = .tuple #[.slice E ((firstE c.ents [x]).getD []).length d, .bool (firstE c.ents [x]).isSome] ∧ Elts w' E ((firstE c.ents [x]).getD []))) (fun e w' ⟨E, d, he, hE, hb'⟩ => by
        have hb2 := hb.trans (hb'.mono hb.size)
        exact ⟨_, he, ⟨KEEP.out w' (hbr.trans (hb2.mono hbr.size)), hb2⟩, E, d, rfl, hE⟩))
      have i1 : (0 : Int) ≤ (i : Int) := by omega
      have i2 : (i : Int) ≤ (i : Int) + 1 := by omega
      have i3 : (i : Int) + 1 ≤ (kc : Int) := by omega
      have w1 : IntKind.i64.wrap ((i : Int) + 1) = (i : Int) + 1 := IntWalk.i64_in _ (by omega)
      have i4 : ((i : Int) + 1 - (i : Int)).toNat = 1 := by omega
      have i5 : ((i : Int) + 1).toNat = i + 1 := by omega
      have i6 : ¬ kc = i := by omega
      have i7 : i + 1 - i = 1 := by omega
      go_wp2_with fail
      refine wp_region_held_drew (S := fun W' => (W'.cell? ⟨w.heap.size, 0, none⟩ = some (.slice A n a) ∧ W'.cell? ⟨w.heap.size, 1, none⟩ = some (.slice B m b) ∧ W'.cell? ⟨w.heap.size, 2, none⟩ = some (.int .i64 c.base) ∧ W'.cell? ⟨w.heap.size, 3, none⟩ = some (.int .i64 c.second) ∧ W'.cell? ⟨w.heap.size, 4, none⟩ = some (.int .i64 c.third)) ∧ Below wr.heap.size wr W') (by kernel_rfl) ⟨⟨f0, f1, f2, f3, f4⟩, (Below.refl _ _).drew⟩ (fun hHeld => ?_)
      refine anyH_take (i := 0) (v := ?_) (some 18) rfl rfl (by kernel_rfl) (by kernel_rfl) (by kernel_rfl) (fun _ _ _ h => h) (by rfl) (by assumption) ?_ ?_
      rotate_left
      · intro w hSw; (try dsimp only at hSw); go_split_ands; go_simp; try (with_reducible rfl)
      try simp only [Act.put, List.setIfInBounds_toArray, List.set_cons_zero, List.set_cons_succ]
      refine anyH_take (i := 1) (v := ?_) (some 19) rfl rfl (by kernel_rfl) (by kernel_rfl) (by kernel_rfl) (fun _ _ _ h => h) (by rfl) (by assumption) ?_ ?_
      rotate_left
      · intro w hSw; (try dsimp only at hSw); go_split_ands; go_simp; try (with_reducible rfl)
      try simp only [Act.put, List.setIfInBounds_toArray, List.set_cons_zero, List.set_cons_succ]
      refine anyH_take (i := 2) (v := ?_) (some 20) rfl rfl (by kernel_rfl) (by kernel_rfl) (by kernel_rfl) (fun _ _ _ h => h) (by rfl) (by assumption) ?_ ?_
      rotate_left
      · intro w hSw; (try dsimp only at hSw); go_split_ands; go_simp; try (with_reducible rfl)
      try simp only [Act.put, List.setIfInBounds_toArray, List.set_cons_zero, List.set_cons_succ]
      refine anyH_take (i := 3) (v := ?_) (some 21) rfl rfl (by kernel_rfl) (by kernel_rfl) (by kernel_rfl) (fun _ _ _ h => h) (by rfl) (by assumption) ?_ ?_
      rotate_left
      · intro w hSw; (try dsimp only at hSw); go_split_ands; go_simp; try (with_reducible rfl)
      try simp only [Act.put, List.setIfInBounds_toArray, List.set_cons_zero, List.set_cons_succ]
      refine anyH_take (i := 4) (v := ?_) (some 22) rfl rfl (by kernel_rfl) (by kernel_rfl) (by kernel_rfl) (fun _ _ _ h => h) (by rfl) (by assumption) ?_ ?_
      rotate_left
      · intro w hSw; (try dsimp only at hSw); go_split_ands; go_simp; try (with_reducible rfl)
      try simp only [Act.put, List.setIfInBounds_toArray, List.set_cons_zero, List.set_cons_succ]
      refine anyH_take (i := 5) (v := ?_) (some 23) rfl rfl (by kernel_rfl) (by kernel_rfl) (by kernel_rfl) (fun _ _ _ h => h) (by rfl) (by assumption) ?_ ?_
      rotate_left
      · intro w hSw; (try dsimp only at hSw); go_split_ands; go_simp; try (with_reducible rfl)
      try simp only [Act.put, List.setIfInBounds_toArray, List.set_cons_zero, List.set_cons_succ]
      refine anyH_callE (i := 6) (some 24) rfl rfl (by kernel_rfl) (by rfl) (by go_simp) (FC1.out _ hHeld.2) (fun v W3 hS6 hR6 => ?_)
      obtain ⟨E, d, rfl, hE⟩ := hR6
      clear hHeld
      have hHeld := hS6
      clear hS6
      try simp only [Act.put, List.setIfInBounds_toArray, List.set_cons_zero, List.set_cons_succ]
      refine anyH_take (i := 7) (v := ?_) (some 17) rfl rfl (by kernel_rfl) (by kernel_rfl) (by kernel_rfl) (fun _ _ _ h => h) (by rfl) (by assumption) ?_ ?_
      rotate_left
      · intro w hSw; (try dsimp only at hSw); go_split_ands; go_simp; try (with_reducible rfl)
      try simp only [Act.put, List.setIfInBounds_toArray, List.set_cons_zero, List.set_cons_succ]
      refine anyH_take (i := 8) (v := ?_) (some 25) rfl rfl (by kernel_rfl) (by kernel_rfl) (by kernel_rfl) (fun _ _ _ h => h) (by rfl) (by assumption) ?_ ?_
      rotate_left
      · intro w hSw; (try dsimp only at hSw); go_split_ands; go_simp; try (with_reducible rfl)
      try simp only [Act.put, List.setIfInBounds_toArray, List.set_cons_zero, List.set_cons_succ]
      refine anyH_take (i := 9) (v := ?_) (some 26) rfl rfl (by kernel_rfl) (by kernel_rfl) (by kernel_rfl) (fun _ _ _ h => h) (by rfl) (by assumption) ?_ ?_
      rotate_left
      · intro w hSw; (try dsimp only at hSw); go_split_ands; go_simp; try (with_reducible rfl)
      try simp only [Act.put, List.setIfInBounds_toArray, List.set_cons_zero, List.set_cons_succ]
      refine anyH_take (i := 10) (v := ?_) (some 8) rfl rfl (by kernel_rfl) (by kernel_rfl) (by kernel_rfl) (fun _ _ _ h => h) (by rfl) (by assumption) ?_ ?_
      rotate_left
      · intro w hSw; (try dsimp only at hSw); go_split_ands; go_simp; try (with_reducible rfl)
      try simp only [Act.put, List.setIfInBounds_toArray, List.set_cons_zero, List.set_cons_succ]
      refine anyH_take (i := 11) (v := ?_) (some 9) rfl rfl (by kernel_rfl) (by kernel_rfl) (by kernel_rfl) (fun _ _ _ h => h) (by rfl) (by assumption) ?_ ?_
      rotate_left
      · intro w hSw; (try dsimp only at hSw); go_split_ands; go_simp; try (with_reducible rfl)
      try simp only [Act.put, List.setIfInBounds_toArray, List.set_cons_zero, List.set_cons_succ]
      refine wpAnyH_done (by kernel_rfl) ?_ _
      have HEL := Lib.hid hE
      have hb3 := hbr.trans (hHeld.2.mono hbr.size)
      clear i1 i2 i3 w1 i4 i5 i6 i7 FC1 hE hHeld f0 f1 f2 f3 f4
      generalize (firstE c.ents [x]).isSome = isx at *
      generalize (firstE c.ents [x]).getD [] = els at *
      obtain ⟨wr0, rfl⟩ : ∃ wr0 : World, wr0 = wr := ⟨_, rfl⟩
      go_wp2_with fail
      go_loopw [10] (fun u wr => ∃ k : Nat, k ≤ els.length ∧ u = .int .i64 k ∧ (∀ t, (ht : t < els.length) → t < k → inR g.lo g.hi els[t].p = false) ∧ Below W3.heap.size W3 wr) (fun u _ => els.length - (intOf u).toNat)
      case atStart => exact ⟨0, Nat.zero_le _, rfl, fun t _ h => by omega, Below.refl _ _⟩
      case round =>
        obtain ⟨k, hk, rfl, hnk, hbq⟩ := hrel
        have HNK := Lib.hid hnk
        clear hnk
        have hb5 := hb3.trans (hbq.mono hb3.size)
        by_cases hltk : k < els.length
        · obtain ⟨b5, o5, rfl, hbl5, hc5⟩ := (HEL.out.below hbq).at hltk
          obtain ⟨c0, c1, c2, c3⟩ := hc5 k hltk
          have HYK := Lib.hid (fun (hh : inR g.lo g.hi els[k].p = true) => HY.out (by rw [HW1.out]; exact anyT hltk hh))
          have HNK1 := Lib.hid (fun hh => all_up (P := fun e : Elt => inR g.lo g.hi e.p = false) hltk HNK.out hh)
          obtain ⟨g0, g1, g2⟩ := KEEG.out wr hb5
          have hii : (k : Int) < (els.length : Int) := by omega
          have hi0 : (0 : Int) ≤ (k : Int) := by omega
          have hkt : ((k : Int)).toNat = k := by omega
          clear hc5 c1 c2 c3 g0 HNK
          generalize els[k].p = ep at *
          by_cases h1 : g.lo ≤ ep
          · have q1 : decide (g.lo ≤ ep) = true := by simpa using h1
            by_cases h2 : ep ≤ g.hi
            · have q2 : decide (ep ≤ g.hi) = true := by simpa using h2
              obtain rfl := HYK.out (inR_true h1 h2)
              clear HYK HNK1 HY HN
              go_wp2_with fail
              go_quiet (fail)
              go_wp2_with fail
              go_ret
              exact ⟨rfl, B0.trans ((below_drewN hb5 _).mono B0.size)⟩
            · have q2 : decide (ep ≤ g.hi) = false := by simpa using h2
              have HQ := Lib.hid (HNK1.out (inR_hi (by omega)))
              clear HYK HNK1 HY
              go_wp2_with fail
              go_quiet (fail)
              go_wp2_with fail
              go_roundw
              case rel => exact ⟨k + 1, by omega, by go_num, HQ.out, below_drewN hbq _⟩
              case measure => simp [intOf]; omega
          · have q1 : decide (g.lo ≤ ep) = false := by simpa using h1
            have HQ := Lib.hid (HNK1.out (inR_lo (by omega)))
            clear HYK HNK1 HY
            go_wp2_with fail
            go_quiet (fail)
            go_wp2_with fail
            go_roundw
            case rel => exact ⟨k + 1, by omega, by go_num, HQ.out, below_drewN hbq _⟩
            case measure => simp [intOf]; omega
        · have HQ := Lib.hid (HN.out (by rw [HW1.out]; exact anyF (fun t ht => HNK.out t ht (by omega))))
          clear HN HY HNK
          go_wp2_with fail
          go_roundw
          case rel => exact ⟨i + 1, by omega, by go_num, HQ.out, hb5⟩
          case measure => simp [intOf]; omega
    · obtain rfl := WN.out (fun t ht => HNO.out t ht (by omega))
      go_wp2_with fail
      go_ret
      exact ⟨rfl, hbw⟩

theorem ref_bad {c : Col} {text : List Int} (h : ¬ colErr c = 0) : refN c text = [] := by unfold refN; rw [if_neg h]
theorem ref_ok {c : Col} {text : List Int} (h : colErr c = 0) : refN c text = pickN c.grps (fun g => wgh c g text) := by unfold refN; rw [if_pos h]

set_option maxRecDepth 100000 in
set_option maxHeartbeats 6400000 in
theorem refOf_any (A : Option Addr) (n a : Nat) (B : Option Addr) (m b : Nat) (c : Col) (C : Option Addr) (kn kc : Nat) (text : List Int) (w : World) (h : ColAt w A n B m c) (hz : ColSz c)
    (hC : Ints w C text) (hkn : text.length = kn) (hk2 : kn ≤ 1048576) (hkc : kn ≤ kc) :
    Calls Try.prog 26 #[colV A n a B m b c, .slice C kn kc] w (RetStrs (refN c text) w) := by
  have B0 : Below w.heap.size w (w.alloc (.cells #[.slice A n a, .slice B m b, .int .i64 c.base, .int .i64 c.second, .int .i64 c.third] 25)) := (Below.refl _ _).alloc (Nat.le_refl _) _
  have s0 : (w.alloc (.cells #[.slice A n a, .slice B m b, .int .i64 c.base, .int .i64 c.second, .int .i64 c.third] 25)).heap.size = w.heap.size + 1 := by simp
  have k0 : (w.alloc (.cells #[.slice A n a, .slice B m b, .int .i64 c.base, .int .i64 c.second, .int .i64 c.third] 25)).cell? ⟨w.heap.size, 0, none⟩ = some (.slice A n a) := by simp
  have k1 : (w.alloc (.cells #[.slice A n a, .slice B m b, .int .i64 c.base, .int .i64 c.second, .int .i64 c.third] 25)).cell? ⟨w.heap.size, 1, none⟩ = some (.slice B m b) := by simp
  have k2 : (w.alloc (.cells #[.slice A n a, .slice B m b, .int .i64 c.base, .int .i64 c.second, .int .i64 c.third] 25)).cell? ⟨w.heap.size, 2, none⟩ = some (.int .i64 c.base) := by simp
  have k3 : (w.alloc (.cells #[.slice A n a, .slice B m b, .int .i64 c.base, .int .i64 c.second, .int .i64 c.third] 25)).cell? ⟨w.heap.size, 3, none⟩ = some (.int .i64 c.second) := by simp
  have k4 : (w.alloc (.cells #[.slice A n a, .slice B m b, .int .i64 c.base, .int .i64 c.second, .int .i64 c.third] 25)).cell? ⟨w.heap.size, 4, none⟩ = some (.int .i64 c.third) := by simp
  have W0E : ∃ W0, (w.alloc (.cells #[.slice A n a, .slice B m b, .int .i64 c.base, .int .i64 c.second, .int .i64 c.third] 25)) = W0 := ⟨_, rfl⟩
  have CK := Lib.hid (fun W (hb : Below w.heap.size w W) => refColl_any A n a B m b c W (h.below hb) hz)
  have WC := Lib.hid (fun (he : colErr c = 0) W (hb : Below w.heap.size w W) g => weighs_any A n a B m b c g C kn kc text W (h.below hb) hz he (hC.below hb) hkn hk2 hkc)
  have HG := Lib.hid h.grps
  have hm := h.hm
  have hmz := hz.m
  have OB := Lib.hid (ref_bad (c := c) (text := text))
  have OK := Lib.hid (ref_ok (c := c) (text := text))
  clear h hz hC
  unfold colV at *
  generalize refN c text = R at *
  go_enter Try.func26, Try.ntmps26
  go_wp2_with fail
  obtain ⟨W0, hW0⟩ := W0E
  rw [hW0] at B0 s0 k0 k1 k2 k3 k4 ⊢
  clear hW0
  have hx0 : w.heap.size < W0.heap.size := by omega
  with_reducible refine (CK.out W0 B0).mono ?_
  rintro e W1 ⟨rfl, hb1⟩
  have hb2 := B0.trans (hb1.mono B0.size)
  clear CK
  by_cases he : colErr c = 0
  rotate_left
  · have q1 : (colErr c != 0) = true := by simpa using he
    obtain rfl := OB.out he
    clear OB OK he WC
    generalize colErr c = er at *
    go_wp2_with fail
    go_ret
    exact ⟨none, 0, rfl, Nat.le_refl _, Sl.nil _ _, hb2⟩
  have q1 : (colErr c != 0) = false := by simpa using he
  have HR := Lib.hid (OK.out he)
  have WC2 := Lib.hid (WC.out he)
  clear OB OK he WC
  generalize colErr c = er at *
  have hx1 : w.heap.size < W1.heap.size := by have := hb1.size; omega
  generalize hgs : c.grps = gs at *
  have HGS := Lib.hid hgs
  clear hgs
  subst hm
  have f0 := (hb1.cell (p := ⟨w.heap.size, 0, none⟩) hx0).trans k0
  have f1 := (hb1.cell (p := ⟨w.heap.size, 1, none⟩) hx0).trans k1
  have f2 := (hb1.cell (p := ⟨w.heap.size, 2, none⟩) hx0).trans k2
  have f3 := (hb1.cell (p := ⟨w.heap.size, 3, none⟩) hx0).trans k3
  have f4 := (hb1.cell (p := ⟨w.heap.size, 4, none⟩) hx0).trans k4
  have KEEP := Lib.hid (show ∀ W', Below W1.heap.size W1 W' → W'.cell? ⟨w.heap.size, 0, none⟩ = some (.slice A n a) ∧ W'.cell? ⟨w.heap.size, 1, none⟩ = some (.slice B gs.length b) ∧ W'.cell? ⟨w.heap.size, 2, none⟩ = some (.int .i64 c.base) ∧ W'.cell? ⟨w.heap.size, 3, none⟩ = some (.int .i64 c.second) ∧ W'.cell? ⟨w.heap.size, 4, none⟩ = some (.int .i64 c.third) from fun W' hb => ⟨(hb.cell (p := ⟨w.heap.size, 0, none⟩) hx1).trans f0, (hb.cell (p := ⟨w.heap.size, 1, none⟩) hx1).trans f1, (hb.cell (p := ⟨w.heap.size, 2, none⟩) hx1).trans f2, (hb.cell (p := ⟨w.heap.size, 3, none⟩) hx1).trans f3, (hb.cell (p := ⟨w.heap.size, 4, none⟩) hx1).trans f4⟩)
  have HN := Lib.hid (show W1.ownsRow W1.heap.size 9 1 (.slice none 0 0) 0 ([] : List Value) from World.ownsRow_nil _ _ _ _)
  clear k0 k1 k2 k3 k4 f0 f1 f2 f3 f4
  go_wp2_with fail
  generalize hWG : (fun g => wgh c g text) = wg at *
  have HWG := Lib.hid hWG
  clear hWG
  go_loopw [5, 6] (fun v u wr => ∃ (i : Nat) (S : Option Addr) (k : Nat), i ≤ gs.length ∧ u = .int .i64 i ∧ v = .slice S (pickN (gs.take i) wg).length k ∧ wr.ownsRow W1.heap.size 9 1 (.slice S (pickN (gs.take i) wg).length k) (pickN (gs.take i) wg).length ((pickN (gs.take i) wg).map Value.string) ∧ (pickN (gs.take i) wg).length ≤ i ∧ Below W1.heap.size W1 wr) (fun _ u _ => gs.length - (intOf u).toNat)
  case atStart => exact ⟨0, none, 0, Nat.zero_le _, rfl, rfl, HN.out, Nat.le_refl _, Below.refl _ _⟩
  case round =>
    obtain ⟨i, S, k, hi, rfl, rfl, hown, hpl, hb6⟩ := hrel
    have HOWN := Lib.hid hown
    clear hown HN
    have hb7 := hb2.trans (hb6.mono hb2.size)
    have hx2 : w.heap.size < wr.heap.size := by have := hb6.size; omega
    obtain ⟨f0, f1, f2, f3, f4⟩ := KEEP.out wr hb6
    by_cases hlt : i < gs.length
    · obtain ⟨b1, o1, rfl, hbl, hcell⟩ := (HG.out.below hb7).at hlt
      obtain ⟨c1, c2, c3⟩ := hcell i hlt
      have HPT := Lib.hid (pickN_take (p := wg) hlt)
      have HWC := Lib.hid (fun W hb => WC2.out W hb gs[i])
      have HWV := Lib.hid (show wgh c gs[i] text = wg gs[i] by rw [← HWG.out])
      clear hcell
      generalize gs[i] = gi at *
      generalize wgh c gi text = wv at *
      obtain ⟨gn, glo, ghi⟩ := gi
      dsimp only at *
      have hii : (i : Int) < (gs.length : Int) := by omega
      have hi0 : (0 : Int) ≤ (i : Int) := by omega
      have hkt : ((i : Int)).toNat = i := by omega
      have KS := Lib.hid (show ∀ W', Below wr.heap.size wr W' → (W'.cell? ⟨w.heap.size, 0, none⟩ = some (.slice A n a) ∧ W'.cell? ⟨w.heap.size, 1, none⟩ = some (.slice (some ⟨b1, o1, none⟩) gs.length b) ∧ W'.cell? ⟨w.heap.size, 2, none⟩ = some (.int .i64 c.base) ∧ W'.cell? ⟨w.heap.size, 3, none⟩ = some (.int .i64 c.second) ∧ W'.cell? ⟨w.heap.size, 4, none⟩ = some (.int .i64 c.third)) ∧ (W'.cell? ⟨b1, o1 + i * 3, none⟩ = some (.string gn) ∧ W'.cell? ⟨b1, o1 + i * 3 + 1, none⟩ = some (.int .i64 glo) ∧ W'.cell? ⟨b1, o1 + i * 3 + 2, none⟩ = some (.int .i64 ghi)) ∧ Below wr.heap.size wr W' from fun W' hb => ⟨KEEP.out W' (hb6.trans (hb.mono hb6.size)), ⟨(hb.cell (p := ⟨b1, o1 + i * 3, none⟩) hbl).trans c1, (hb.cell (p := ⟨b1, o1 + i * 3 + 1, none⟩) hbl).trans c2, (hb.cell (p := ⟨b1, o1 + i * 3 + 2, none⟩) hbl).trans c3⟩, hb⟩)
      have WC1 := Lib.hid (fun W' (hb : Below wr.heap.size wr W') => (HWC.out W' (hb7.trans (hb.mono hb7.size))).mono (R' := fun e W' => e = .returned (.bool wv) ∧ ((W'.cell? ⟨w.heap.size, 0, none⟩ = some (.slice A n a) ∧ W'.cell? ⟨w.heap.size, 1, none⟩ = some (.slice (some ⟨b1, o1, none⟩) gs.length b) ∧ W'.cell? ⟨w.heap.size, 2, none⟩ = some (.int .i64 c.base) ∧ W'.cell? ⟨w.heap.size, 3, none⟩ = some (.int .i64 c.second) ∧ W'.cell? ⟨w.heap.size, 4, none⟩ = some (.int .i64 c.third)) ∧ (W'.cell? ⟨b1, o1 + i * 3, none⟩ = some (.string gn) ∧ W'.cell? ⟨b1, o1 + i * 3 + 1, none⟩ = some (.int .i64 glo) ∧ W'.cell? ⟨b1, o1 + i * 3 + 2, none⟩ = some (.int .i64 ghi)) ∧ Below wr.heap.size wr W')) (fun e w' ⟨he, hb'⟩ => ⟨he, KS.out w' (hb.trans (hb'.mono hb.size))⟩))
      go_wp2_with fail
      refine wp_region_held_drew (S := fun W' => (W'.cell? ⟨w.heap.size, 0, none⟩ = some (.slice A n a) ∧ W'.cell? ⟨w.heap.size, 1, none⟩ = some (.slice (some ⟨b1, o1, none⟩) gs.length b) ∧ W'.cell? ⟨w.heap.size, 2, none⟩ = some (.int .i64 c.base) ∧ W'.cell? ⟨w.heap.size, 3, none⟩ = some (.int .i64 c.second) ∧ W'.cell? ⟨w.heap.size, 4, none⟩ = some (.int .i64 c.third)) ∧ (W'.cell? ⟨b1, o1 + i * 3, none⟩ = some (.string gn) ∧ W'.cell? ⟨b1, o1 + i * 3 + 1, none⟩ = some (.int .i64 glo) ∧ W'.cell? ⟨b1, o1 + i * 3 + 2, none⟩ = some (.int .i64 ghi)) ∧ Below wr.heap.size wr W') (by kernel_rfl) (KS.out _ (Below.refl _ _).drew) (fun hHeld => ?_)
      refine anyH_take (i := 0) (v := ?_) (some 17) rfl rfl (by kernel_rfl) (by kernel_rfl) (by kernel_rfl) (fun _ _ _ h => h) (by rfl) (by assumption) ?_ ?_
      rotate_left
      · intro w hSw; (try dsimp only at hSw); go_split_ands; go_simp; try (with_reducible rfl)
      try simp only [Act.put, List.setIfInBounds_toArray, List.set_cons_zero, List.set_cons_succ]
      refine anyH_take (i := 1) (v := ?_) (some 18) rfl rfl (by kernel_rfl) (by kernel_rfl) (by kernel_rfl) (fun _ _ _ h => h) (by rfl) (by assumption) ?_ ?_
      rotate_left
      · intro w hSw; (try dsimp only at hSw); go_split_ands; go_simp; try (with_reducible rfl)
      try simp only [Act.put, List.setIfInBounds_toArray, List.set_cons_zero, List.set_cons_succ]
      refine anyH_take (i := 2) (v := ?_) (some 19) rfl rfl (by kernel_rfl) (by kernel_rfl) (by kernel_rfl) (fun _ _ _ h => h) (by rfl) (by assumption) ?_ ?_
      rotate_left
      · intro w hSw; (try dsimp only at hSw); go_split_ands; go_simp; try (with_reducible rfl)
      try simp only [Act.put, List.setIfInBounds_toArray, List.set_cons_zero, List.set_cons_succ]
      refine anyH_take (i := 3) (v := ?_) (some 20) rfl rfl (by kernel_rfl) (by kernel_rfl) (by kernel_rfl) (fun _ _ _ h => h) (by rfl) (by assumption) ?_ ?_
      rotate_left
      · intro w hSw; (try dsimp only at hSw); go_split_ands; go_simp; try (with_reducible rfl)
      try simp only [Act.put, List.setIfInBounds_toArray, List.set_cons_zero, List.set_cons_succ]
      refine anyH_take (i := 4) (v := ?_) (some 21) rfl rfl (by kernel_rfl) (by kernel_rfl) (by kernel_rfl) (fun _ _ _ h => h) (by rfl) (by assumption) ?_ ?_
      rotate_left
      · intro w hSw; (try dsimp only at hSw); go_split_ands; go_simp; try (with_reducible rfl)
      try simp only [Act.put, List.setIfInBounds_toArray, List.set_cons_zero, List.set_cons_succ]
      refine anyH_take (i := 5) (v := ?_) (some 22) rfl rfl (by kernel_rfl) (by kernel_rfl) (by kernel_rfl) (fun _ _ _ h => h) (by rfl) (by assumption) ?_ ?_
      rotate_left
      · intro w hSw; (try dsimp only at hSw); go_split_ands; go_simp; try (with_reducible rfl)
      try simp only [Act.put, List.setIfInBounds_toArray, List.set_cons_zero, List.set_cons_succ]
      refine anyH_take (i := 6) (v := ?_) (some 23) rfl rfl (by kernel_rfl) (by kernel_rfl) (by kernel_rfl) (fun _ _ _ h => h) (by rfl) (by assumption) ?_ ?_
      rotate_left
      · intro w hSw; (try dsimp only at hSw); go_split_ands; go_simp; try (with_reducible rfl)
      try simp only [Act.put, List.setIfInBounds_toArray, List.set_cons_zero, List.set_cons_succ]
      refine anyH_call (i := 7) (some 24) rfl rfl (by kernel_rfl) (by rfl) (by go_simp) (WC1.out _ hHeld.2.2) (fun W3 hS6 => ?_)
      clear hHeld
      have hHeld := hS6
      clear hS6
      try simp only [Act.put, List.setIfInBounds_toArray, List.set_cons_zero, List.set_cons_succ]
      refine wpAnyH_done (by kernel_rfl) ?_ _
      obtain ⟨⟨f0', f1', f2', f3', f4'⟩, ⟨c1', c2', c3'⟩, Bp⟩ := hHeld
      clear f0 f1 f2 f3 f4 c1 c2 c3 f0' f2' f3' f4' c2' c3' KS WC1 HWC
      have hb8 := hb6.trans (Bp.mono hb6.size)
      have hs8 : wr.heap.size ≤ W3.heap.size := Bp.size
      cases wv with
      | true =>
        have hpt := HPT.out
        rw [if_pos HWV.out.symm] at hpt
        have HPQ := Lib.hid hpt
        have Bq : Below wr.heap.size wr (W3.alloc (.cells #[.string gn] 9)) := Bp.alloc Bp.size _
        have HOP := Lib.hid (own_keep HOWN.out Bq)
        have szp : W1.heap.size ≤ (W3.alloc (.cells #[.string gn] 9)).heap.size := Nat.le_trans hb6.size Bq.size
        have hb9 := hb6.trans (Bq.mono hb6.size)
        have hxa : w.heap.size < W3.heap.size := by omega
        have hxb : b1 < W3.heap.size := by omega
        clear Bp Bq hpt HPT HOWN HWV
        generalize hLL : pickN (gs.take i) wg = LL at *
        clear hLL
        go_wp2_with (at_builtin; refine wpList_app _ _ 26 9 (.string .empty) 1 16 rfl rfl Try.underlying26 info_str rfl (by decide) (by decide) rfl HOP.out rfl (Sl_new _ [.string gn] _ rfl) rfl (by intro u hu; simp at hu; rw [hu]; rfl) (by omega) szp ?_; intro A7 c7 w7 hown7 hc7 hb7 hgr7 hAA7; clear hgr7 hAA7; have HO7 := Lib.hid hown7; clear hown7)
        go_roundw
        case rel =>
          have e1 : LL.length + 1 = (pickN (gs.take (i + 1)) wg).length := by rw [HPQ.out, List.length_append]; rfl
          refine ⟨i + 1, A7, c7, by omega, by go_num, ?_, ?_, by omega, hb9.trans hb7⟩
          · rw [e1]
          · rw [← e1, HPQ.out, List.map_append]; exact HO7.out
        case measure => simp [intOf]; omega
      | false =>
        have hpt := HPT.out
        rw [if_neg (by rw [← HWV.out]; simp), List.append_nil] at hpt
        have HPQ := Lib.hid hpt
        have HOP := Lib.hid (own_keep HOWN.out Bp)
        clear Bp hpt HPT HOWN HWV
        generalize hLL : pickN (gs.take i) wg = LL at *
        clear hLL
        go_wp2_with fail
        go_roundw
        case rel => exact ⟨i + 1, S, k, by omega, by go_num, by rw [HPQ.out], by rw [HPQ.out]; exact HOP.out, by rw [HPQ.out]; omega, hb8⟩
        case measure => simp [intOf]; omega
    · have ho := HOWN.out
      rw [List.take_of_length_le (show gs.length ≤ i by omega), ← HR.out] at ho
      rw [List.take_of_length_le (show gs.length ≤ i by omega), ← HR.out]
      have HO := Lib.hid ho
      clear ho HOWN
      go_wp2_with fail
      go_ret
      obtain ⟨_, _, hv, hc⟩ := own_form HO.out
      injection hv with _ _ hv
      subst hv
      exact ⟨S, k, rfl, hc, Sl.of_own HO.out, hb7⟩

end Go.Proofs.Ytnfnoefjgiojoaa
