/- Contracts of AppendSeq and Collect over the iterator of runs, and of ordering.Runs: the runs of a text are returned in a new slice. -/
import Derived.Test.YthagfcdleapooaaDoorRuns
import Derived.RangeFuncBox
import Derived.Maps.AppendAt
import Derived.Maps.OwnIn
namespace Go.Proofs.YthagfcdleapooaaDoor
open Go.RowKit Go.Shelf
attribute [local go_sem] Oper.semAt_some

/-- the cells of ranges -/
def flat2 (rs : List (Nat × Nat)) : List Value := rs.flatMap fun r => [.int .i64 (r.1 : Int), .int .i64 (r.2 : Int)]
theorem flat2_len (rs : List (Nat × Nat)) : (flat2 rs).length = rs.length * 2 := by
  induction rs with
  | nil => rfl
  | cons r rs ih => simp only [flat2, List.flatMap_cons, List.length_append, List.length_cons, List.length_nil] at *; omega
theorem flat2_snoc (rs : List (Nat × Nat)) (x : Nat × Nat) : flat2 (rs ++ [x]) = flat2 rs ++ [.int .i64 (x.1 : Int), .int .i64 (x.2 : Int)] := by simp [flat2]

/-- a slice of the ranges rs is returned; nothing that was there has changed -/
def RetRanges (rs : List (Nat × Nat)) (w : World) (e : Ending) (w' : World) : Prop := ∃ A c, e = .returned (.slice A rs.length c) ∧ rs.length ≤ c ∧ Sl w' A (flat2 rs) ∧ Below w.heap.size w w'

theorem info_range : (Tryd.prog.info? 38).map (fun i => (i.zero, i.size, i.bytes)) = some (some (.agg #[.int .i64 0, .int .i64 0]), 2, 16) := by kernel_rfl

theorem keepX_of_below {n₀ bo : Nat} {W W' : World} (h : Below n₀ W W') : KeepX n₀ bo W W' := ⟨h.size, fun k hk _ => h.block k hk⟩

theorem Mem.lt_bt {Bt Bs : Nat} {A : Option Addr} {nt kt : Nat} {text : List Int} {A' : Option Addr} {ns ks : Nat} {ss : List Spn} {W : World} (h : Mem Bt Bs A nt kt text A' ns ks ss W) : Bt < W.heap.size := World.block_lt_of_cell? W _ h.bt
theorem Mem.lt_bs {Bt Bs : Nat} {A : Option Addr} {nt kt : Nat} {text : List Int} {A' : Option Addr} {ns ks : Nat} {ss : List Spn} {W : World} (h : Mem Bt Bs A nt kt text A' ns ks ss W) : Bs < W.heap.size := World.block_lt_of_cell? W _ h.bs
theorem Sl.lt {W : World} {A : Option Addr} {cs : List Value} (h : Sl W A cs) (hne : cs ≠ []) (bo : Nat) (hbo : W.heap.size ≤ bo) : Within W.heap.size bo A := by
  intro b o hA
  obtain ⟨b', o', hA', hc⟩ := h hne
  rw [hA] at hA'
  injection hA' with hA'
  injection hA' with h1 h2
  subst h1; subst h2
  obtain ⟨x, r, rfl⟩ : ∃ x r, cs = x :: r := by cases cs with | nil => exact absurd rfl hne | cons x r => exact ⟨x, r, rfl⟩
  have := World.block_lt_of_cell? W _ (hc 0 x rfl)
  simp at this
  exact ⟨this, by omega⟩

set_option maxRecDepth 100000 in
set_option maxHeartbeats 4000000 in
theorem AppendSeq_any (Bt Bs : Nat) (A : Option Addr) (nt kt : Nat) (text : List Int) (A' : Option Addr) (ns ks : Nat) (ss : List Spn) (all : List (Nat × Nat)) (w : World)
    (hall : rns (cls ss) text 0 none = all) (hnt : text.length = nt) (hns : ss.length = ns) (hb1 : nt ≤ 1048576) (hb2 : ns ≤ 1099511627776) (hasc : Asc ss) (hM : Mem Bt Bs A nt kt text A' ns ks ss w) :
    Calls Tryd.prog 43 #[.slice none 0 0, .func (.func 44) #[] #[.pointer (some ⟨Bt, 0, none⟩), .pointer (some ⟨Bs, 0, none⟩)]] w (RetRanges all w) := by
  have hlen : all.length ≤ 1048576 := by rw [← hall]; have := rns_len0 (cls ss) text 0; omega
  obtain ⟨i0, hi0, hz0, hz1, hz2⟩ := info_parts info_range
  refine (callsIn_wide (n := 6)).1 ?_
  refine callsIn_of_wp_marks Tryd.func43 rfl trivial ?_ rfl
  simp only [Tryd.ntmps43, List.size_toArray, List.length_cons, List.length_nil, Nat.reduceAdd, Nat.reduceSub, Array.replicate_succ, Array.replicate_zero, List.push_toArray, List.append_toArray, List.nil_append, List.cons_append]
  gi_wp2
  have bS := Boxed.new w 30 (.slice none 0 0)
  have hB0 : Below w.heap.size w (w.alloc (.cells #[.slice none 0 0] 30)) := (Below.refl _ w).alloc (Nat.le_refl _) _
  have hsz : (w.alloc (.cells #[.slice none 0 0] 30)).heap.size = w.heap.size + 1 := by simp
  have hM0 := hM.below hB0
  obtain ⟨W0, hW0⟩ : ∃ W0, w.alloc (.cells #[.slice none 0 0] 30) = W0 := ⟨_, rfl⟩
  rw [hW0] at bS hB0 hsz hM0 ⊢
  clear hW0
  refine wpIn_rangeFunc_ownH rfl (by omega) (gf := 44) (lb := #[.pointer (some ⟨Bt, 0, none⟩), .pointer (some ⟨Bs, 0, none⟩)]) rfl trivial (enters_of Tryd.func44 (by kernel_rfl) rfl)
    (runs_stops (fun x => x) 5 (by omega) w.heap.size w.heap.size Bt Bs A nt kt text A' ns ks ss all W0 (by rw [hall]; simp) hnt hns (by omega) hb2 hasc ⟨hM.lt_bt, by have := hM.lt_bt; omega⟩ ⟨hM.lt_bs, by have := hM.lt_bs; omega⟩
      (fun hne => Sl.lt hM.tx (by simpa using hne) _ (Nat.le_refl _)) (fun hne => Sl.lt hM.sp (by cases ss with | nil => exact absurd rfl hne | cons s r => simp [flat3]) _ (Nat.le_refl _)) hM0)
    (fun h k => h.trans k) (fun W l o o' hl h hc hw => keepX_of_below (belowK_b (w := W0) (by omega) W l o o' hl h hc hw)) (Below.refl _ _) (fun _ => rfl)
    (fun pre W => (∃ v, Boxed W w.heap.size 30 v ∧ W.ownsRow w.heap.size 38 2 v pre.length (flat2 pre) ∧ True) ∧ Below w.heap.size w W)
    (fun _ _ _ => False)
    (OwnFrom.and (Own.from (holdsRow_own w.heap.size w.heap.size 30 38 2 (fun pre : List (Nat × Nat) => pre.length) flat2 (fun _ _ => True)) _) (ownFrom_below (Nat.le_refl _) (by omega)))
    (fun _ _ _ _ _ hs _ _ => hs)
    ⟨⟨_, bS, World.ownsRow_nil _ _ _ _, trivial⟩, hB0⟩
    (fun x a' W => ∃ Bx, w.heap.size < Bx ∧ W.heap[Bx]? = some (.cells #[.int .i64 (x.1 : Int), .int .i64 (x.2 : Int)] 38 (0, 0)) ∧ a' = { tmps := #[.slice none 0 0, .func (.func 44) #[] #[.pointer (some ⟨Bt, 0, none⟩), .pointer (some ⟨Bs, 0, none⟩)], .pointer (some ⟨w.heap.size, 0, none⟩), undef, .slice none 0 0, .pointer (some ⟨Bx, 0, none⟩), .func (.func 44) #[] #[.pointer (some ⟨Bt, 0, none⟩), .pointer (some ⟨Bs, 0, none⟩)], .agg #[.int .i64 (x.1 : Int), .int .i64 (x.2 : Int)], undef, undef, undef, undef, undef], defers := [] })
    (fun x a' _ X Y row hs hg hr => by
      obtain ⟨Bx, h1, h2, h3⟩ := hs
      refine ⟨Bx, h1, (hg.block Bx (Array.getElem?_eq_some_iff.1 h2).1 (fun e => ?_)).trans h2, h3⟩
      obtain ⟨_, o, ho, hc⟩ := hr Bx e.symm
      rw [h2] at ho; cases ho; cases hc)
    ?assign ?body ?done ?stop
  case assign =>
    rintro l pre x W K ⟨⟨v, bS1, hr1, _⟩, hB1⟩ hK
    unfold encR at *
    gi_wp2
    exact hK _ _ ((KeepsOthers.alloc _ _).from _) (keepX_of_below ((Below.refl _ W).alloc hB1.size _)) ⟨⟨v, bS1.alloc _, hr1.alloc _, trivial⟩, hB1.alloc hB1.size _⟩ ⟨W.heap.size, bS1.lt, heap_alloc_new W _, rfl⟩
  case body =>
    rintro l pre x a' W hl ⟨r, hr⟩ ⟨⟨v, bS1, hr1, _⟩, hB1⟩ ⟨Bx, hBx, bX, rfl⟩ hlt
    obtain ⟨Av, cv, rfl, hcv⟩ := own_form hr1
    have cS := bS1.cell
    have fS := bS1.frozen
    have x0 : W.cell? ⟨Bx, 0, none⟩ = some (.int .i64 (x.1 : Int)) := by rw [cell_of_row W Bx 0 _ _ (0, 0) bX]; rfl
    have x1 : W.cell? ⟨Bx, 1, none⟩ = some (.int .i64 (x.2 : Int)) := by rw [cell_of_row W Bx 1 _ _ (0, 0) bX]; rfl
    have hltS := bS1.lt
    gi_wp2_with (gi_at_builtin; refine wpListIn_append_own _ rfl _ _ 30 rfl w.heap.size 38 i0 (.agg #[.int .i64 0, .int .i64 0]) 2 16 Tryd.underlying30 hi0 hz0 hz1 hz2 rfl (by decide) _ _ _ rfl (hr1.alloc _) ⟨W.heap.size, 0, none⟩ 1 1 [.int .i64 (x.1 : Int), .int .i64 (x.2 : Int)] rfl rfl ?c1 (oneCell_ints [_, _]) (by unfold maxLen; omega) (by omega) (by have := hB1.size; simp; omega) ?_)
    case c1 =>
      intro j u hu
      match j, hu with
      | 0, hu => simp at hu; subst hu; simp [Addr.add]
      | 1, hu => simp at hu; subst hu; simp [Addr.add]
    · intro v' w1 hown' hgrow _
      obtain ⟨Av', cv', rfl, hcv'⟩ := own_form hown'
      obtain ⟨hv1, hv2, hr2, hk2, hb2⟩ := bS1.appended (by decide) hr1 hB1.size (Nat.le_refl _) hown' hgrow
      have hc1 := hv1.cell
      have hf1 := hv1.frozen
      clear hown' hgrow cS fS x0 x1 hr1 bX bS1
      gi_wp2
      refine ⟨hk2.from _, keepX_of_below hb2, ⟨_, hv2, ?_, trivial⟩, hB1.trans hb2⟩
      rw [flat2_snoc, List.length_append]
      exact hr2
  case done =>
    rintro D ys W hD rfl ⟨⟨v, bS1, hr1, _⟩, hB1⟩ hK
    obtain ⟨Av, cv, rfl, hcv⟩ := own_form hr1
    have cS := bS1.cell
    have HRow := Lib.hid (ownsRow_putObj hr1 (.deferred none) hK rfl)
    have HBel := Lib.hid (hB1.trans (belowK_b (w := w) (Nat.le_refl _) W D _ (.deferred none) (by omega) hK rfl rfl))
    gi_wp2
    refine ⟨by simp, .inl ⟨_, _, rfl, run_takeDeferred hK, ?_⟩⟩
    exact ⟨_, results_tmp rfl _ _ _, Av, cv, rfl, hcv, Sl.of_own HRow.out, HBel.out⟩
  case stop =>
    rintro D c pre W _ _ h _
    exact h.elim

theorem Collect_any (Bt Bs : Nat) (A : Option Addr) (nt kt : Nat) (text : List Int) (A' : Option Addr) (ns ks : Nat) (ss : List Spn) (all : List (Nat × Nat)) (w : World)
    (hall : rns (cls ss) text 0 none = all) (hnt : text.length = nt) (hns : ss.length = ns) (hb1 : nt ≤ 1048576) (hb2 : ns ≤ 1099511627776) (hasc : Asc ss) (hM : Mem Bt Bs A nt kt text A' ns ks ss w) :
    Calls Tryd.prog 33 #[.func (.func 44) #[] #[.pointer (some ⟨Bt, 0, none⟩), .pointer (some ⟨Bs, 0, none⟩)]] w (RetRanges all w) := by
  have C := Lib.hid (AppendSeq_any Bt Bs A nt kt text A' ns ks ss all w hall hnt hns hb1 hb2 hasc hM)
  clear hall hnt hns hasc hM
  go_enter Tryd.func33, Tryd.ntmps33
  go_wp2_with fail
  refine C.out.mono ?_
  rintro e w1 ⟨A1, c1, rfl, hc1, hA1, hb1⟩
  go_wp2_with fail
  go_ret
  exact ⟨A1, c1, rfl, hc1, hA1, hb1⟩

theorem Runs_any (A' : Option Addr) (ns ks : Nat) (ss : List Spn) (A : Option Addr) (nt kt : Nat) (text : List Int) (w : World) (hS : Spans w A' ss) (hT : Ints w A text)
    (hnt : text.length = nt) (hns : ss.length = ns) (hb1 : nt ≤ 1048576) (hb2 : ns ≤ 1099511627776) (hL : Laid w) :
    Calls Tryd.prog 18 #[.slice A' ns ks, .slice A nt kt] w (RetRanges (rns (clz ss) text 0 none) w) := by
  have hle := us_len ss
  rw [hns] at hle
  have U := Lib.hid (usable_any A' ns ks ss w hS hns hb2 hL)
  have hasc := Lib.hid (us_asc ss)
  have hcl : clz ss = cls (us ss) := rfl
  rw [hcl]
  clear hS hL hns hcl
  generalize us ss = ts at *
  go_enter Tryd.func18, Tryd.ntmps18
  go_wp2_with fail
  refine U.out.mono ?_
  rintro e w1 ⟨A1, k1, rfl, hA1, hb3⟩
  have hT1 := hT.below hb3
  clear hT U
  go_wp2_with fail
  refine (runs_any A nt kt A1 ts.length k1 w1).mono ?_
  rintro e w2 ⟨rfl, hw2⟩
  have hM : Mem (w1.heap.size + 1) w1.heap.size A nt kt text A1 ts.length k1 ts w2 := by
    rw [← hw2]
    exact ⟨by simp, by simp, Sl.alloc (Sl.alloc hT1 _) _, Sl.alloc (Sl.alloc hA1 _) _⟩
  have hb4 : Below w.heap.size w w2 := by
    rw [← hw2]
    exact (hb3.alloc hb3.size _).alloc (by have := hb3.size; simp; omega) _
  have HM := Lib.hid hM
  clear hw2 hM hT1 hA1 hb3
  go_wp2_with fail
  refine (Collect_any (w1.heap.size + 1) w1.heap.size A nt kt text A1 ts.length k1 ts _ w2 rfl hnt rfl hb1 (by omega) hasc.out HM.out).mono ?_
  rintro e w3 ⟨A3, c3, rfl, hc3, hA3, hb5⟩
  go_wp2_with fail
  go_ret
  exact ⟨A3, c3, rfl, hc3, hA3, hb4.trans (hb5.mono hb4.size)⟩

end Go.Proofs.YthagfcdleapooaaDoor
