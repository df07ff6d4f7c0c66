/- Texts that are merged into one file: SetB, StepApp, SetC, SetD. -/
import Derived.Test.YtjglanjfgbipmaaDoorG01
import Derived.Test.YtjglanjfgbipmaaDoorG06
import Derived.Deep.AppendLies
import Derived.Deep.RegionLaw
import Derived.Laws.OwnMore
import Derived.Laws.StructEq
/- Contracts of cpset.Has and of the reference's Has, Small, place, Cuts and keeps. Written by gen_setb.py. -/
namespace Go.Proofs.YtjglanjfgbipmaaDoor
open Go.RowKit Go.Maps Go.WideMaps

theorem hasR_no {rs : List Rg} {c : Int} (h : inR 0 1114111 c = false) : hasR rs c = false := by unfold hasR; rw [h]; rfl
theorem hasR_yes {rs : List Rg} {c : Int} (h : inR 0 1114111 c = true) {k : Nat} (hk : k < rs.length) (h2 : inR rs[k].lo rs[k].hi c = true) : hasR rs c = true := by unfold hasR; rw [h, Bool.true_and]; exact anyT hk h2
theorem hasR_not {rs : List Rg} {c : Int} (h2 : ∀ t, (ht : t < rs.length) → inR rs[t].lo rs[t].hi c = false) : hasR rs c = false := by unfold hasR; rw [anyF h2, Bool.and_false]

set_option maxRecDepth 100000 in
set_option maxHeartbeats 3200000 in
theorem cpHas_any (A : Option Addr) (n a : Nat) (rs : List Rg) (c : Int) (w : World) (hA : Rgs w A rs) (hn : rs.length = n) (hb : n ≤ 1048576) :
    Calls Tryd.prog 22 #[.agg #[.slice A n a], .int .i64 c] w (RetBool (hasR rs c) w) := by
  subst hn
  have H0 := Lib.hid (hasR_no (rs := rs) (c := c))
  have H1 := Lib.hid (fun h k hk h2 => hasR_yes (rs := rs) (c := c) h (k := k) hk h2)
  have H2 := Lib.hid (hasR_not (rs := rs) (c := c))
  generalize hasR rs c = R at *
  have B0 : Below w.heap.size w (w.alloc (.cells #[.slice A rs.length a] 33)) := (Below.refl _ _).alloc (Nat.le_refl _) _
  have k0 : (w.alloc (.cells #[.slice A rs.length a] 33)).cell? ⟨w.heap.size, 0, none⟩ = some (.slice A rs.length a) := by simp
  have s0 : (w.alloc (.cells #[.slice A rs.length a] 33)).heap.size = w.heap.size + 1 := by simp
  have W0E : ∃ W0, (w.alloc (.cells #[.slice A rs.length a] 33)) = W0 := ⟨_, rfl⟩
  have HA := Lib.hid hA
  clear hA
  cases hv : inR 0 1114111 c with
  | false =>
    obtain rfl := H0.out hv
    go_enter Tryd.func22, Tryd.ntmps22
    go_wp2_with (go_at_call 35; refine (cpValid_any c _).mono ?_; rw [hv]; rintro e w' ⟨rfl, rfl⟩)
    go_ret
    exact ⟨rfl, B0⟩
  | true =>
    have H1 := Lib.hid (H1.out hv)
    go_enter Tryd.func22, Tryd.ntmps22
    go_wp2_with (go_at_call 35; refine (cpValid_any c _).mono ?_; rw [hv]; rintro e w' ⟨rfl, rfl⟩)
    obtain ⟨W0, hW0⟩ := W0E
    rw [hW0] at B0 k0 s0 ⊢
    clear hW0
    have HA0 := Lib.hid (HA.out.below B0)
    clear HA
    go_loopw [13] (fun u wr => ∃ i : Nat, i ≤ rs.length ∧ u = .int .i64 i ∧ (∀ t, (ht : t < rs.length) → t < i → inR rs[t].lo rs[t].hi c = false) ∧ Below W0.heap.size W0 wr) (fun u _ => rs.length - (intOf u).toNat)
    case atStart => exact ⟨0, Nat.zero_le _, rfl, fun t _ h => by omega, Below.refl _ _⟩
    case round =>
      obtain ⟨i, hi, rfl, hno, hbr⟩ := hrel
      have HNO := Lib.hid hno
      clear hno
      by_cases hlt : i < rs.length
      · obtain ⟨b1, o1, rfl, hbl, hcell⟩ := (HA0.out.below hbr).at hlt
        obtain ⟨c1, c2⟩ := hcell i hlt
        have HY := Lib.hid (fun h => H1.out i hlt h)
        have HN := Lib.hid (fun h => all_up (P := fun r : Rg => inR r.lo r.hi c = false) hlt HNO.out h)
        clear hcell
        generalize rs[i] = ri at *
        obtain ⟨rlo, rhi⟩ := ri
        dsimp only at *
        by_cases h1 : rlo ≤ c
        · have q1 : decide (rlo ≤ c) = true := by simpa using h1
          by_cases h2 : c ≤ rhi
          · have q2 : decide (c ≤ rhi) = true := by simpa using h2
            obtain rfl := HY.out (inR_true h1 h2)
            clear HY HN H1 H2
            go_wp2_with fail
            go_ret
            exact ⟨rfl, B0.trans ((hbr.alloc hbr.size _).mono B0.size)⟩
          · have q2 : decide (c ≤ rhi) = false := by simpa using h2
            have HQ := Lib.hid (HN.out (inR_hi (by omega)))
            clear HY HN
            go_wp2_with fail
            go_roundw
            case rel => exact ⟨i + 1, by omega, by go_num, HQ.out, hbr.alloc hbr.size _⟩
            case measure => simp [intOf]; omega
        · have q1 : decide (rlo ≤ c) = false := by simpa using h1
          have HQ := Lib.hid (HN.out (inR_lo (by omega)))
          clear HY HN
          go_wp2_with fail
          go_roundw
          case rel => exact ⟨i + 1, by omega, by go_num, HQ.out, hbr.alloc hbr.size _⟩
          case measure => simp [intOf]; omega
      · obtain rfl := H2.out (fun t ht => HNO.out t ht (by omega))
        go_wp2_with fail
        go_ret
        exact ⟨rfl, B0.trans (hbr.mono B0.size)⟩

/-! place -/
def anyGe (l : List Int) (n : Int) : Bool := l.any (fun x => decide (n ≤ x))
theorem anyGe_take {l : List Int} {n : Int} {k : Nat} (hk : k < l.length) : anyGe (l.take (k + 1)) n = (anyGe (l.take k) n || decide (n ≤ l[k])) := by
  unfold anyGe; rw [List.take_succ_eq_append_getElem hk, List.any_append]; simp
theorem placeL_snocY : ∀ {l : List Int} {n x : Int}, anyGe l n = true → placeL (l ++ [x]) n = placeL l n ++ [x]
  | y :: r, n, x, h => by
    simp only [List.cons_append, placeL]
    split
    · split <;> rfl
    · next g =>
      have : anyGe r n = true := by
        unfold anyGe at h ⊢
        rw [List.any_cons, Bool.or_eq_true] at h
        rcases h with h | h
        · exact absurd (by simpa using h) g
        · exact h
      rw [placeL_snocY this]; rfl
theorem placeL_no : ∀ {l : List Int} {n : Int}, anyGe l n = false → placeL l n = l ++ [n]
  | [], _, _ => rfl
  | y :: r, n, h => by
    unfold anyGe at h
    rw [List.any_cons, Bool.or_eq_false_iff] at h
    have h1 : ¬ n ≤ y := by simpa using h.1
    simp only [placeL]
    rw [if_neg h1, placeL_no (show anyGe r n = false from h.2)]
    rfl
theorem placeL_snocN : ∀ {l : List Int} {n x : Int}, anyGe l n = false → n ≤ x → placeL (l ++ [x]) n = l ++ (if n < x then [n, x] else [x])
  | [], n, x, _, hx => by
    simp only [List.nil_append, placeL, hx, if_true]
  | y :: r, n, x, h, hx => by
    unfold anyGe at h
    rw [List.any_cons, Bool.or_eq_false_iff] at h
    have h1 : ¬ n ≤ y := by simpa using h.1
    simp only [List.cons_append, placeL]
    rw [if_neg h1, placeL_snocN (show anyGe r n = false from h.2) hx]
/-- after k elements -/
def plk (l : List Int) (n : Int) (k : Nat) : List Int := if anyGe (l.take k) n = true then placeL (l.take k) n else l.take k
section
variable {l : List Int} {n : Int} {k : Nat}
theorem plk_yes (hk : k < l.length) (h : anyGe (l.take k) n = true) : plk l n (k + 1) = plk l n k ++ [l[k]] := by
  unfold plk
  have e := anyGe_take (n := n) hk
  rw [h, Bool.true_or] at e
  rw [if_pos e, if_pos h, List.take_succ_eq_append_getElem hk, placeL_snocY h]
theorem plk_gt (hk : k < l.length) (h : anyGe (l.take k) n = false) (hx : n < l[k]) : plk l n (k + 1) = plk l n k ++ [n] ++ [l[k]] := by
  unfold plk
  have e := anyGe_take (n := n) hk
  rw [h, Bool.false_or, show decide (n ≤ l[k]) = true by simp; omega] at e
  rw [if_pos e, if_neg (by simp [h]), List.take_succ_eq_append_getElem hk, placeL_snocN h (by omega), if_pos hx]
  simp
theorem plk_eq (hk : k < l.length) (h : anyGe (l.take k) n = false) (hx : n = l[k]) : plk l n (k + 1) = plk l n k ++ [l[k]] := by
  unfold plk
  have e := anyGe_take (n := n) hk
  rw [h, Bool.false_or, show decide (n ≤ l[k]) = true by simp; omega] at e
  rw [if_pos e, if_neg (by simp [h]), List.take_succ_eq_append_getElem hk, placeL_snocN h (by omega), if_neg (by omega)]
theorem plk_no (hk : k < l.length) (h : anyGe (l.take k) n = false) (hx : ¬ n ≤ l[k]) : plk l n (k + 1) = plk l n k ++ [l[k]] := by
  unfold plk
  have e := anyGe_take (n := n) hk
  rw [h, Bool.false_or, show decide (n ≤ l[k]) = false by simp; omega] at e
  rw [if_neg (by simp [e]), if_neg (by simp [h]), List.take_succ_eq_append_getElem hk]
theorem plk_len : (plk l n k).length ≤ k + 1 := by
  have : ∀ (s : List Int), (placeL s n).length ≤ s.length + 1 := by
    intro s
    induction s with
    | nil => simp [placeL]
    | cons y r ih =>
      simp only [placeL]
      split
      · split <;> simp
      · simp only [List.length_cons]; omega
  unfold plk
  split
  · have h := this (l.take k)
    have := List.length_take_le k l
    omega
  · have := List.length_take_le k l
    omega
theorem plk_endY (h : anyGe l n = true) : plk l n l.length = placeL l n := by unfold plk; rw [List.take_length, if_pos h]
theorem plk_endN (h : anyGe l n = false) : plk l n l.length ++ [n] = placeL l n := by unfold plk; rw [List.take_length, if_neg (by simp [h]), placeL_no h]
end
theorem placeL_len (l : List Int) (n : Int) : (placeL l n).length ≤ l.length + 1 := by
  induction l with
  | nil => simp [placeL]
  | cons y r ih =>
    simp only [placeL]
    split
    · split <;> simp
    · simp only [List.length_cons]; omega

end Go.Proofs.YtjglanjfgbipmaaDoor
/- An append to an owned row, asq a step of a region that draws its order. No program in sight. -/
namespace Go.Proofs.YtjglanjfgbipmaaDoor
open Go.RowKit
variable {P : Program} {w : World}

theorem step_app {ops : Array Oper} {o : Oper} {a : Act} {K : Act → World → Prop} {Q : Exit → Act → World → Prop} {E : Prop} (hgd : o.guard = none) (s x : Operand) (t e : TypeId) (z : Value) (size bytes : Nat)
    (ho : o.op = .call { callee := .builtin .append, args := #[s, x], argTypes := #[t, t] }) (ht : P.underlying t = some (.slice e))
    (hinfo : (P.info? e).map (fun i => (i.zero, i.size, i.bytes)) = some (some z, size, bytes)) (hzs : z.cells.size = size) (hsz : 0 < size) (hby : 0 < bytes)
    {base : Nat} {A : Option Addr} {n c : Nat} {xs : List Value} (hs : a.eval s = .slice A n c) (hown : w.ownsRow base e size (.slice A n c) n xs)
    {A' : Option Addr} {m c' : Nat} {news : List Value} (hx : a.eval x = .slice A' m c') (hr : Sl w A' news) (hl : news.length = m * size) (h1 : ∀ u ∈ news, u.oneCell' = true)
    (hlim : (n + m) * bytes ≤ 140737488355328) (hbase : base ≤ w.heap.size)
    (h : ∀ B k w', w'.ownsRow base e size (.slice B (n + m) k) (n + m) (xs ++ news) → n + m ≤ k → Below base w w' → w.grownBy w' (Value.ownBlock (.slice A n c)) → (B = A ∨ B = some ⟨w.heap.size, 0, none⟩) →
      K (a.put o.dst (.slice B (n + m) k)) w') : if Region.wanted o (yielded ops a.tmps) = true then Oper.wp P o a w K Q else E := by
  have hw : Region.wanted o (yielded ops a.tmps) = true := by simp [Region.wanted, hgd]
  rw [if_pos hw]
  obtain ⟨B, k, w', hrun, h2, h3, h4, h5, h6⟩ := run_app (P := P) t o.type e z size bytes ht hinfo hzs hsz hby hown (c' := c') hr hl h1 hlim hbase
  unfold Oper.wp execOp
  simp only [ho, resolve, invoke, builtin, Sem.run_bind, Sem.run_pure, Result.andThen_ok, List.map_toArray, List.map_cons, List.map_nil, hs, hx, hrun]
  exact h B k w' h2 h3 h4 h5 h6

end Go.Proofs.YtjglanjfgbipmaaDoor
/- Contracts of the reference's Cuts, combine, Make, Same and Valid on sets. Written by gen_setc.py. -/
namespace Go.Proofs.YtjglanjfgbipmaaDoor
open Go.RowKit Go.Maps Go.WideMaps

def RetIs (l : List Int) (w : World) (e : Ending) (w' : World) : Prop := ∃ E d, e = .returned (.slice E l.length d) ∧ l.length ≤ d ∧ Ints w' E l ∧ Below w.heap.size w w'
theorem RetOwnI.is {l : List Int} {w : World} {e : Ending} {w' : World} (h : RetOwnI l w e w') : RetIs l w e w' := by
  obtain ⟨A, c, h1, h2, h3⟩ := h
  obtain ⟨_, _, hv, hc⟩ := own_form h2
  injection hv with _ _ hv
  subst hv
  exact ⟨A, c, h1, hc, Sl.of_own h2, h3⟩
theorem cut1_len (l : List Int) (r : Rg) : (cut1 l r).length ≤ l.length + 2 := by
  unfold cut1
  dsimp only
  have h1 : (if inR 0 1114111 r.lo = true then placeL l r.lo else l).length ≤ l.length + 1 := by
    split
    · exact placeL_len _ _
    · omega
  split
  · have := placeL_len (if inR 0 1114111 r.lo = true then placeL l r.lo else l) (r.hi + 1); omega
  · omega
theorem fold_len (rs : List Rg) (l : List Int) : (rs.foldl cut1 l).length ≤ l.length + 2 * rs.length := by
  induction rs generalizing l with
  | nil => simp
  | cons r rs ih =>
    have := ih (cut1 l r)
    have := cut1_len l r
    simp only [List.foldl_cons, List.length_cons]
    omega
theorem cuts_len (rs : List Rg) (l : List Int) : (cutsL l rs).length ≤ l.length + 2 * rs.length + 1 := by
  unfold cutsL
  have := placeL_len (rs.foldl cut1 l) 0
  have := fold_len rs l
  omega

theorem nxt_lt {cs : List Int} {i : Nat} (h : i < cs.length) : nxt cs i = cs[i] := by unfold nxt; rw [List.getElem?_eq_getElem h]; rfl
theorem nxt_end {cs : List Int} {i : Nat} (h : ¬ i < cs.length) : nxt cs i = 1114112 := by unfold nxt; rw [List.getElem?_eq_none (by omega)]; rfl
section
variable {p : Int → Bool} {cs : List Int} {i : Nat}
theorem bld_no (h : p (nxt cs i) = false) : bld p cs (i + 1) = ((bld p cs i).1, false) := by simp [bld, h]
theorem bld_new (h : p (nxt cs i) = true) (h2 : (bld p cs i).2 = false) : bld p cs (i + 1) = ((bld p cs i).1 ++ [⟨nxt cs i, nxt cs (i + 1) - 1⟩], true) := by simp [bld, h, h2]
theorem bld_old (h : p (nxt cs i) = true) (h2 : (bld p cs i).2 = true) : bld p cs (i + 1) = (growL (bld p cs i).1 (nxt cs (i + 1) - 1), true) := by simp [bld, h, h2]
theorem bld_len : ∀ i, (bld p cs i).1.length ≤ i
  | 0 => Nat.le_refl _
  | i + 1 => by
    have ih := bld_len i
    simp only [bld]
    split
    · dsimp only
      split
      · rw [growL_len]; omega
      · rw [List.length_append]; simp; omega
    · dsimp only; omega
end
/-- the last range's end is set -/
theorem bld_set {rs : List Rg} {cs : List Int} (h : Ct rs cs) (h0 : 0 ∈ cs) {i : Nat} (hi : i < cs.length) (h2 : (bld (hasR rs) cs i).2 = true) :
    ∃ k x, (bld (hasR rs) cs i).1.length = k + 1 ∧ (bld (hasR rs) cs i).1[k]? = some x ∧ growL (bld (hasR rs) cs i).1 (nxt cs (i + 1) - 1) = (bld (hasR rs) cs i).1.set k ⟨x.lo, nxt cs (i + 1) - 1⟩ := by
  have hb := bld_ok h h0 i (by omega)
  obtain ⟨x, hx, hxh⟩ := hb.yes h2
  have hne : (bld (hasR rs) cs i).1 ≠ [] := by intro e; rw [e] at hx; cases hx
  have hlt : nxt cs i ≤ nxt cs (i + 1) := by
    rcases Nat.lt_or_ge (i + 1) cs.length with g | g
    · have := List.pairwise_iff_getElem.1 h.asc i (i + 1) (by omega) g (by omega)
      rw [nxt_lt hi, nxt_lt g]; omega
    · rw [nxt_lt hi, nxt_end (by omega)]
      have := h.bd _ (List.getElem_mem hi)
      omega
  obtain ⟨k, hk⟩ : ∃ k, (bld (hasR rs) cs i).1.length = k + 1 := ⟨(bld (hasR rs) cs i).1.length - 1, by have := List.length_pos_iff.2 hne; omega⟩
  have hxk : (bld (hasR rs) cs i).1[k]? = some x := by
    rw [List.getLast?_eq_getElem?, hk] at hx
    simpa using hx
  refine ⟨k, x, hk, hxk, ?_⟩
  rw [growL_set hk]
  have e : (bld (hasR rs) cs i).1[k]'(by omega) = x := (List.getElem?_eq_some_iff.1 hxk).2
  rw [e]
  congr 2
  omega
theorem flatR_sethi (d : List Rg) (i : Nat) (h : Int) {x : Rg} (hx : d[i]? = some x) : (flatK Rg.cells d).set (i * 2 + 1) (.int .i64 h) = flatK Rg.cells (d.set i ⟨x.lo, h⟩) := by
  induction d generalizing i with
  | nil => simp at hx
  | cons y r ih =>
    cases i with
    | zero => simp at hx; subst hx; simp [flatK, Rg.cells]
    | succ i =>
      have h1 := ih i (by simpa using hx)
      simp only [flatK, List.flatMap_cons, Rg.cells, List.cons_append, List.nil_append, List.set_cons_succ] at *
      rw [show (i + 1) * 2 = i * 2 + 1 + 1 by omega]
      simp only [List.set_cons_succ, h1]
theorem info_rg : (Tryd.prog.info? 75).map (fun i => (i.zero, i.size, i.bytes)) = some (some (.agg #[.int .i64 0, .int .i64 0]), 2, 16) := by kernel_rfl
theorem oneCell_rg (r : Rg) : ∀ u ∈ Rg.cells r, u.oneCell' = true := by
  intro u hu
  simp only [Rg.cells, List.mem_cons, List.not_mem_nil, or_false] at hu
  rcases hu with rfl | rfl <;> rfl

theorem own_le {w : World} {base : Nat} {e : TypeId} {size n c : Nat} {A : Option Addr} {xs : List Value} (h : w.ownsRow base e size (.slice A n c) n xs) : n ≤ c := by
  obtain ⟨_, _, hv, hc⟩ := own_form h
  injection hv with _ _ hv
  subst hv
  exact hc
theorem own_off {w : World} {base : Nat} {e : TypeId} {size n : Nat} {v : Value} {xs : List Value} (h : w.ownsRow base e size v n xs) {p : Addr} (hp : p.block < base) (u : Value) : (w.setCell p u).ownsRow base e size v n xs :=
  h.kept (grown_set w p u) (by
    cases hv : v.ownBlock with
    | none => exact .inl rfl
    | some q =>
      right
      have := (h.lt q hv).1
      intro e
      injection e with e
      omega)
/-- a set is returned -/
def RetSet (rs : List Rg) (w : World) (e : Ending) (w' : World) : Prop := ∃ E d, e = .returned (.agg #[.slice E rs.length d]) ∧ rs.length ≤ d ∧ Rgs w' E rs ∧ Below w.heap.size w w'

end Go.Proofs.YtjglanjfgbipmaaDoor
/- Contracts of the reference's Make, Same and Valid on sets; of slices.SortFunc at ranges, cpset.Make and cpset.Valid. Written by gen_setd.py. -/
namespace Go.Proofs.YtjglanjfgbipmaaDoor
open Go.RowKit Go.Maps Go.WideMaps

theorem neq_rg (a b c d : Int) (w : World) : (binOp .neq 75 (.agg #[.int .i64 a, .int .i64 b]) (.agg #[.int .i64 c, .int .i64 d])).run Tryd.prog w = .ok (.bool (!decide ((⟨a, b⟩ : Rg) = ⟨c, d⟩))) w := by
  have u3 := Tryd.underlying3
  have a3 := Tryd.isAgg3
  have z3 := Tryd.sizeOf3
  have hS : Tryd.prog.underlying 75 = some (.struct (Tryd.prog.fieldsOf 75)) := by kernel_rfl
  have hp : Tryd.prog.stoodInHeld 75 = false := by kernel_rfl
  rw [run_neq_struct, show (10000 : Nat) = 9999 + 1 from rfl, run_equalIn_agg w 9999 75 _ _ hS hp]
  simp only [Program.fieldsOf, Tryd.underlying75]
  go_simp
  by_cases h2 : a = c <;> by_cases h3 : b = d <;> simp [h2, h3]

theorem sameR_len {xs ys : List Rg} (h : xs.length ≠ ys.length) : decide (xs = ys) = false := by simp; exact fun e => h (by rw [e])
theorem sameR_ne {xs ys : List Rg} {k : Nat} (h1 : k < xs.length) (h2 : k < ys.length) (h : ¬ xs[k] = ys[k]) : decide (xs = ys) = false := by simp; rintro rfl; exact h rfl
theorem sameR_eq {xs ys : List Rg} (hl : xs.length = ys.length) (h : ∀ t, (h1 : t < xs.length) → (h2 : t < ys.length) → xs[t] = ys[t]) : decide (xs = ys) = true := by simp; exact List.ext_getElem hl h

theorem canR_len (rs : List Rg) : (canR rs).length ≤ 2 * rs.length + 2 := by
  unfold canR
  have h1 := bld_len (p := hasR rs) (cs := cutsL (cutsL [] rs) []) (cutsL (cutsL [] rs) []).length
  have h2 : (cutsL (cutsL [] rs) []).length ≤ (cutsL [] rs).length + 2 * 0 + 1 := cuts_len [] (cutsL [] rs)
  have h3 : (cutsL [] rs).length ≤ 0 + 2 * rs.length + 1 := cuts_len rs []
  omega

/-! the program's sort -/
set_option maxRecDepth 100000 in
theorem len64_any (n : Nat) (h : n ≤ 12) (w : World) : Calls Tryd.prog 47 #[.int .u64 n] w (fun e w' => (∃ z : Int, e = .returned (.int .i64 z)) ∧ w = w') := by
  obtain rfl | rfl | rfl | rfl | rfl | rfl | rfl | rfl | rfl | rfl | rfl | rfl | rfl : n = 0 ∨ n = 1 ∨ n = 2 ∨ n = 3 ∨ n = 4 ∨ n = 5 ∨ n = 6 ∨ n = 7 ∨ n = 8 ∨ n = 9 ∨ n = 10 ∨ n = 11 ∨ n = 12 := by omega
  all_goals
    go_enter Tryd.func47, Tryd.ntmps47
    go_wp2
    go_ret
    exact ⟨⟨_, rfl⟩, rfl⟩

end Go.Proofs.YtjglanjfgbipmaaDoor
