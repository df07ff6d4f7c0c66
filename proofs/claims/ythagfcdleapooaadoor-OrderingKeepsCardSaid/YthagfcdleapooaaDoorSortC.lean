/- The contract of ordering.Sort, the walk. -/
import Derived.Test.YthagfcdleapooaaDoorSortB
namespace Go.Proofs.YthagfcdleapooaaDoor
open Go.RowKit Go.Shelf
attribute [local go_sem] Oper.semAt_some

/-- spans do not lie in the box of a slice -/
theorem Sl.not_box {W : World} {A : Option Addr} {cs : List Value} {B : Nat} {t : TypeId} {v : Value} (h : Sl W A cs) (hb : Boxed W B t v) (hv : ∀ k i, v ≠ .int k i) {x : Value} {r : List Value} (hcs : cs = x :: r) {k : IntKind} {i : Int} (hx : x = .int k i) : ∀ b o, A = some ⟨b, o, none⟩ → b ≠ B := by
  rintro b o rfl rfl
  subst hcs; subst hx
  obtain ⟨b', o', hA, hc⟩ := h (by simp)
  injection hA with hA
  injection hA with h1 h2
  subst h1; subst h2
  have := hc 0 _ rfl
  rw [cell_of_row W b _ _ _ (0, 0) hb] at this
  simp at this
  cases o with
  | zero => simp at this; exact hv _ _ this
  | succ o => simp at this

theorem Spans.not_box {W : World} {A : Option Addr} {ts : List Spn} {B : Nat} {t : TypeId} {v : Value} (h : Spans W A ts) (hb : Boxed W B t v) (hv : ∀ k i, v ≠ .int k i) (hne : ts ≠ []) : ∀ b o, A = some ⟨b, o, none⟩ → b ≠ B := by
  cases ts with
  | nil => exact absurd rfl hne
  | cons s r => exact Sl.not_box (cs := flat3 (s :: r)) h hb hv rfl rfl

theorem Sl.set_box {W : World} {A : Option Addr} {cs : List Value} {B : Nat} (h : Sl W A cs) (hne : cs ≠ [] → ∀ b o, A = some ⟨b, o, none⟩ → b ≠ B) (v : Value) : Sl (W.setCell ⟨B, 0, none⟩ v) A cs := by
  intro hc
  obtain ⟨b, o, rfl, h1⟩ := h hc
  refine ⟨b, o, rfl, fun j u hu => ?_⟩
  have : b ≠ B := hne hc b o rfl
  rw [← h1 j u hu]
  exact World.cell?_of_block (w := W) (Below.heap_setCell _ _ _ b (by rintro rfl; exact this rfl))

theorem below_set {n : Nat} {w W : World} (h : Below n w W) {B : Nat} (hB : n ≤ B) (v : Value) : Below n w (W.setCell ⟨B, 0, none⟩ v) :=
  ⟨h.os, h.tape, h.output, by have := h.size; simpa [World.setCell] using this, fun k hk => (Below.heap_setCell _ _ _ k (fun e => by have : k = B := (by first | exact e | exact e.symm); omega)).trans (h.block k hk)⟩

theorem Within.mono {n n' bo : Nat} {A : Option Addr} (h : Within n bo A) (hn : n ≤ n') : Within n' bo A := fun b o e => ⟨Nat.lt_of_lt_of_le (h b o e).1 hn, (h b o e).2⟩

theorem own_block {w : World} {base top : Nat} {e : TypeId} {A : Option Addr} {n c : Nat} {xs : List Value} (h : w.ownsRow base e 1 (.slice A n c) n xs) (hb : base ≤ top) : ∃ bo, base ≤ bo ∧ (bo < w.heap.size ∨ bo = top) ∧ ∀ g o, A = some ⟨g, o, none⟩ → g = bo := by
  rcases h.2 with ⟨hv, _⟩ | ⟨g, cap, cur, hv, hg, hgb, _⟩
  · injection hv with hA
    exact ⟨top, hb, .inr rfl, fun g o e => by rw [hA] at e; cases e⟩
  · injection hv with hA
    exact ⟨g, hg, .inl (Array.getElem?_eq_some_iff.1 hgb).1, fun g' o e => by rw [hA] at e; injection e with e; injection e with e; exact e.symm⟩

theorem keepsOthers_grown {W W' : World} {b : Nat} {c : Array Value} {t : TypeId} {f : Nat × Nat} (hg : W.grownBy W' (some b)) (hb : W.heap[b]? = some (.cells c t f)) : KeepsOthers W W' :=
  ⟨hg.size, fun k o hk ho => (hg.block k (Array.getElem?_eq_some_iff.1 hk).1 (fun e => by injection e with e; subst e; rw [hb] at hk; cases hk; cases ho)).trans hk⟩

set_option maxRecDepth 100000 in
set_option maxHeartbeats 4000000 in
theorem Sort_stp (A' : Option Addr) (ns ks : Nat) (ss ts : List Spn) (A : Option Addr) (nt kt : Nat) (text : List Int) (w : World) (hS : Spans w A' ss) (hT : Ints w A text)
    (hnt : text.length = nt) (hns : ss.length = ns) (hb1 : nt ≤ 1048576) (hb2 : ns ≤ 1099511627776) (hL : Laid w) (hts : us ss = ts) :
    Calls Tryd.prog 22 #[.slice A' ns ks, .slice A nt kt] w (fun e w' => ∃ A1 c d, e = .returned (.slice A1 nt c) ∧ nt ≤ c ∧ Ints w' A1 d ∧ Srt.Stp (cls ts) text (rns (cls ts) text 0 none) d ∧ Below w.heap.size w w') := by
  have hle := us_len ss
  have U := Lib.hid (fun W hb (hL : Laid W) => usable_any A' ns ks ss W (Spans.below (w := w) (w' := W) hS hb) hns hb2 hL)
  have hasc := Lib.hid (us_asc ss)
  rw [hts] at hle hasc U
  have HT := Lib.hid hT
  have HL := Lib.hid hL
  clear hT hS hL hts
  rw [hns] at hle
  refine (callsIn_wide (n := 6)).1 ?_
  refine callsIn_of_wp_marks Tryd.func22 rfl trivial ?_ rfl
  simp only [Tryd.ntmps22, List.size_toArray, List.length_cons, List.length_nil, Nat.reduceAdd, Nat.reduceSub, Array.replicate_succ, Array.replicate_zero, List.push_toArray, List.append_toArray, List.nil_append, List.cons_append]
  gi_wp2_with fail
  refine ⟨trivial, (callsIn_wide.2 (U.out _ ((Below.refl _ w).alloc (Nat.le_refl _) _) (HL.out.below ((Below.refl _ w).alloc (Nat.le_refl _) _)))).mono ?_⟩
  rintro e w1 ⟨A1, k1, rfl, hA1, hbw1⟩
  have bL : Boxed w1 w.heap.size 22 (.slice A' ns ks) := (hbw1.block w.heap.size (by simp)).trans (Boxed.new w 22 (.slice A' ns ks))
  have hB1 : Below w.heap.size w w1 := ((Below.refl _ w).alloc (Nat.le_refl _) _).trans (hbw1.mono (by simp))
  have cL := bL.cell
  have fL := bL.frozen
  have HA1 := Lib.hid hA1
  clear hbw1 hA1
  gi_wp2_with fail
  have bL2 := bL.set (.slice A1 ts.length k1)
  have hB2 := below_set hB1 (Nat.le_refl _) (.slice A1 ts.length k1)
  have hnb : ts ≠ [] → ∀ b o, A1 = some ⟨b, o, none⟩ → b ≠ w.heap.size := fun hne => Spans.not_box HA1.out bL (by rintro k i h; cases h) hne
  have hA2 : Spans (w1.setCell ⟨w.heap.size, 0, none⟩ (.slice A1 ts.length k1)) A1 ts := Sl.set_box HA1.out (fun h => hnb (by rintro rfl; exact h rfl)) _
  have HNB := Lib.hid hnb
  clear HA1 hnb bL cL fL hB1
  obtain ⟨w2, hw2⟩ : ∃ w2, w1.setCell ⟨w.heap.size, 0, none⟩ (.slice A1 ts.length k1) = w2 := ⟨_, rfl⟩
  rw [hw2] at bL2 hB2 hA2 ⊢
  clear hw2
  refine ⟨trivial, (callsIn_wide.2 (Clone_any A nt kt text w2 (HT.out.below hB2) hnt hb1)).mono ?_⟩
  rintro e w3 ⟨A3, c3, rfl, hown3, hbw3⟩
  have bL3 : Boxed w3 w.heap.size 22 (.slice A1 ts.length k1) := (hbw3.block _ bL2.lt).trans bL2
  have hA3 := hA2.below hbw3
  have hB3 := hB2.trans (hbw3.mono hB2.size)
  have hs3 := hbw3.size
  have hlt2 := bL2.lt
  rw [hnt] at hown3 ⊢
  have HOWN := Lib.hid hown3
  have HA3 := Lib.hid hA3
  have HWI := Lib.hid (fun hne bo hbo => Sl.lt hA2 (cs := flat3 ts) hne bo hbo)
  clear hbw3 hA2 bL2 hB2 hown3 hA3
  have cL := (bL3.alloc (.cells #[.slice A3 nt c3] 27)).cell
  gi_wp2_with fail
  refine ⟨trivial, (callsIn_wide.2 (runs_any A nt kt A1 ts.length k1 _)).mono ?_⟩
  rintro e W0 ⟨rfl, hW0⟩
  simp only [World.size_alloc] at hW0 ⊢
  have hsz : W0.heap.size = w3.heap.size + 3 := by rw [← hW0]; simp
  have hM : Mem (w3.heap.size + 1 + 1) (w3.heap.size + 1) A nt kt text A1 ts.length k1 ts W0 := by
    rw [← hW0]
    refine ⟨?_, ?_, Sl.alloc (Sl.alloc (Sl.alloc (HT.out.below hB3) _) _) _, Sl.alloc (Sl.alloc (Sl.alloc HA3.out _) _) _⟩
    · have h := (Boxed.new ((w3.alloc (.cells #[.slice A3 nt c3] 27)).alloc (.cells #[.slice A1 ts.length k1] 22)) 27 (.slice A nt kt)).cell
      rw [World.size_alloc, World.size_alloc] at h
      exact h
    · have h := ((Boxed.new (w3.alloc (.cells #[.slice A3 nt c3] 27)) 22 (.slice A1 ts.length k1)).alloc (.cells #[.slice A nt kt] 27)).cell
      rw [World.size_alloc] at h
      exact h
  have hI0 : SortI (cls ts) text w2.heap.size w3.heap.size w.heap.size A3 nt c3 A1 ts.length k1 ts w [] W0 := by
    rw [← hW0]
    refine SortI.alloc (SortI.alloc ?_ _) _
    exact ⟨Boxed.new _ _ _, ⟨text, HOWN.out.alloc _, rfl⟩, cL, Sl.alloc HA3.out _, hB3.alloc hB3.size _⟩
  obtain ⟨bo, hbo1, hbo2, hbo3⟩ := own_block HOWN.out (top := w3.heap.size + 3) (by omega)
  obtain ⟨all, hall⟩ := rg_all (n := nt) (rns (cls ts) text 0 none) (fun r hr => by have := rns_in (cls ts) text 0 none (fun _ h => by cases h) r hr; omega)
  have HALL := Lib.hid hall; clear hall
  have HM := Lib.hid hM; clear hM
  have HB := Lib.hid hbo3; clear hbo3
  clear hW0 cL bL3 HA3 HOWN
  gi_wp2_with fail
  refine wpIn_rangeFunc_ownH rfl (by omega) (gf := 44) (lb := #[.pointer (some ⟨w3.heap.size + 1 + 1, 0, none⟩), .pointer (some ⟨w3.heap.size + 1, 0, none⟩)]) rfl trivial (enters_of Tryd.func44 (by kernel_rfl) rfl)
    (runs_stops (α := Rg nt) (fun x => x.1) 5 (by omega) W0.heap.size bo (w3.heap.size + 1 + 1) (w3.heap.size + 1) A nt kt text A1 ts.length k1 ts all W0 HALL.out hnt rfl (by omega) (by omega) hasc.out ⟨by omega, by omega⟩ ⟨by omega, by omega⟩
      (fun hne => (Sl.lt HT.out (by simpa using hne) _ (by omega)).mono (by have := hB3.size; omega)) (fun hne => (HWI.out (by cases ts with | nil => exact absurd rfl hne | cons s r => simp [flat3]) _ hbo1).mono (by omega)) HM.out)
    (fun h k => h.trans k) (fun W l o o' hl h hc hw => keepX_of_below (belowK_b (w := W0) (by omega) W l o o' hl h hc hw)) (Below.refl _ _) (fun _ => rfl)
    (fun pre W => SortI (cls ts) text w2.heap.size w3.heap.size w.heap.size A3 nt c3 A1 ts.length k1 ts w (pre.map fun x => x.1) W ∧ W0.heap.size ≤ W.heap.size)
    (fun _ _ _ => False)
    (OwnFrom.and (SortI.own _ (by have := hB3.size; omega)) (fun _ _ _ _ h hg _ => Nat.le_trans h hg.size))
    (fun _ _ _ _ _ hs _ _ => hs)
    ⟨hI0, Nat.le_refl _⟩
    (fun x a' W => ∃ Bx, w3.heap.size < Bx ∧ W.heap[Bx]? = some (.cells #[.int .i64 (x.1.1 : Int), .int .i64 (x.1.2 : Int)] 38 (0, 0)) ∧ a' = { tmps := #[.slice A' ns ks, .slice A nt kt, .pointer (some ⟨w.heap.size, 0, none⟩), undef, .slice none 0 0, .pointer (some ⟨w3.heap.size, 0, none⟩), .pointer (some ⟨Bx, 0, none⟩), .slice A' ns ks, .slice A1 ts.length k1, .slice A nt kt, .slice A3 nt c3, .slice A1 ts.length k1, .slice A nt kt, .func (.func 44) #[] #[.pointer (some ⟨w3.heap.size + 1 + 1, 0, none⟩), .pointer (some ⟨w3.heap.size + 1, 0, none⟩)], .agg #[.int .i64 (x.1.1 : Int), .int .i64 (x.1.2 : Int)], undef, undef, undef, undef, undef, undef, undef, undef, undef], defers := [] })
    (fun x a' _ X Y row hs hg hr => by
      obtain ⟨Bx, h1, h2, h3⟩ := hs
      refine ⟨Bx, h1, (hg.block Bx (Array.getElem?_eq_some_iff.1 h2).1 (fun e => ?_)).trans h2, h3⟩
      obtain ⟨_, o, ho, hc⟩ := hr Bx e.symm
      rw [h2] at ho; cases ho; cases hc)
    ?assign ?body ?done ?stop
  case assign =>
    rintro l pre x W K ⟨hI1, hWs⟩ hK
    unfold encR at *
    gi_wp2
    exact hK _ _ ((KeepsOthers.alloc _ _).from _) (keepX_of_below ((Below.refl _ W).alloc hWs _)) ⟨hI1.alloc _, by rw [World.size_alloc]; omega⟩ ⟨W.heap.size, hI1.box.lt, heap_alloc_new W _, rfl⟩
  case body =>
    rintro l pre ⟨⟨lo, hi⟩, hx1, hx2⟩ a' W hl ⟨r, hr⟩ ⟨hI1, hWs⟩ ⟨Bx, hBx, bX, rfl⟩ hlt
    dsimp only at hx1 hx2 bX ⊢
    obtain ⟨d, hrow, hstp⟩ := hI1.row
    obtain ⟨g, post, rfl, hg1, hRow, hdl, hcl, hcm⟩ := own_row hrow (by omega)
    obtain rfl := HB.out g 0 rfl
    have cS := hI1.box.cell
    have x0 : W.cell? ⟨Bx, 0, none⟩ = some (.int .i64 (lo : Int)) := by rw [cell_of_row W Bx 0 _ _ (0, 0) bX]; rfl
    have x1 : W.cell? ⟨Bx, 1, none⟩ = some (.int .i64 (hi : Int)) := by rw [cell_of_row W Bx 1 _ _ (0, 0) bX]; rfl
    have HSTP := Lib.hid hstp
    have HROW := Lib.hid hRow
    have HI := Lib.hid hI1
    clear hstp hRow hrow hI1
    gi_wp2_with fail
    have hseg : ((d.drop lo).take (hi - lo)).length = hi - lo := by simp; omega
    have HCUT := Lib.hid (HROW.out.cut (lo := lo) (hi := hi) (by omega) (by omega))
    have HC := Lib.hid (cmps_of (b := g) HI.out.l HI.out.sp rfl (by omega) hasc.out (by omega) (fun hne o e => (HWI.out (by cases ts with | nil => exact absurd rfl hne | cons s r => simp [flat3]) g hbo1 g o e).2 rfl))
    refine ⟨trivial, (CallsIn.inRound l (callsIn_wide.2 (SortStable_any g w.heap.size lo (hi - lo) (c3 - lo) 3 (cls ts) _ _ _ W HCUT.out hseg (by omega) HC.out))).mono ?_⟩
    rintro e W5 ⟨rfl, d5, hD, hR5, hg5⟩
    have hko : KeepsOthers W W5 := keepsOthers_grown hg5 HROW.out.2
    have hkx : KeepX W0.heap.size g W W5 := ⟨hg5.size, fun k hk hne => hg5.block k (by omega) (by intro e; injection e with e; exact hne e)⟩
    have hR6 := hR5.uncut
    have hd5 : d5.length = hi - lo := hD.1.1.trans hseg
    have hout : d.take lo ++ (d.drop lo).take (hi - lo) ++ d.drop hi = d := by
      have := Srt.parts d lo lo hi (Nat.le_refl _) (by omega)
      simp only [Nat.sub_self, List.take_zero, List.nil_append] at this
      exact this.symm
    have hdone : Srt.Done (cls ts) d (d.take lo ++ d5 ++ d.drop hi) lo hi := by
      have h1 := Srt.Done.lift (p := d.take lo) (q := d.drop hi) (show Srt.Done (cls ts) ((d.drop lo).take (hi - lo)) d5 0 _ by rw [hseg]; exact hD)
      rw [hout, hseg, show (d.take lo).length = lo by simp; omega, show lo + (hi - lo) = hi by omega] at h1
      exact h1
    have hI5 : SortI (cls ts) text w2.heap.size w3.heap.size w.heap.size (some ⟨g, 0, none⟩) nt c3 A1 ts.length k1 ts w ((pre ++ [(⟨(lo, hi), hx1, hx2⟩ : Rg nt)]).map fun x => x.1) W5 := by
      have hcell : ∀ p : Addr, p.block < W.heap.size → p.block ≠ g → W5.cell? p = W.cell? p := fun p h1 h2 => World.cell?_of_block (w := W) (hg5.block p.block h1 (fun e => h2 (by injection e)))
      refine ⟨HI.out.box.kept hg5 (fun e => ?_), ⟨_, row_own hR6 hg1 (by simp [hd5]; omega) hcl hcm, ?_⟩, ?_, ?_, ?_⟩
      · injection e with e; omega
      · rw [List.map_append]
        exact Srt.Stp.snoc (r := (lo, hi)) HSTP.out hdone
      · exact (hcell _ (World.block_lt_of_cell? W _ HI.out.l) (by simp; omega)).trans HI.out.l
      · intro hne
        obtain ⟨b', o', hA, hcs⟩ := HI.out.sp hne
        refine ⟨b', o', hA, fun j u hu => ?_⟩
        have h1 := hcs j u hu
        exact (hcell _ (World.block_lt_of_cell? W _ h1) (by rintro rfl; exact (HWI.out hne _ hbo1 _ _ hA).2 rfl)).trans h1
      · exact HI.out.bel.grown hg5 HI.out.bel.size (fun k e => by injection e with e; omega)
    have hsz5 := hg5.size
    clear hD hR5 hR6 hg5 HCUT HC HROW HI HSTP hdone hout
    gi_wp2_with fail
    exact ⟨hko.from _, hkx, hI5, by omega⟩
  case done => 
    rintro D ys W hD rfl ⟨hI1, hWs⟩ hK
    obtain ⟨d, hrow, hstp⟩ := hI1.row
    have cS := hI1.box.cell
    have HRow := Lib.hid (ownsRow_putObj hrow (.deferred none) hK rfl)
    have HBel := Lib.hid (hI1.bel.trans (belowK_b (w := w) (Nat.le_refl _) W D _ (.deferred none) (by have := hB3.size; omega) hK rfl rfl))
    have HSTP := Lib.hid hstp
    have hcv : nt ≤ c3 := by obtain ⟨Av, cv, hv, hcv⟩ := own_form hrow; injection hv with _ _ h; omega
    clear hrow hstp
    gi_wp2_with fail
    refine ⟨by simp, .inl ⟨_, _, rfl, run_takeDeferred hK, ?_⟩⟩
    refine ⟨_, results_tmp rfl _ _ _, A3, c3, d, rfl, ?_, Sl.of_own HRow.out, ?_, HBel.out⟩
    · exact hcv
    · have := HSTP.out; rw [HALL.out] at this; exact this
  case stop =>
    rintro D c pre W _ _ h _
    exact h.elim

theorem Sort_any (A' : Option Addr) (ns ks : Nat) (ss : List Spn) (A : Option Addr) (nt kt : Nat) (text : List Int) (w : World) (hS : Spans w A' ss) (hT : Ints w A text)
    (hnt : text.length = nt) (hns : ss.length = ns) (hb1 : nt ≤ 1048576) (hb2 : ns ≤ 1099511627776) (hL : Laid w) :
    Calls Tryd.prog 22 #[.slice A' ns ks, .slice A nt kt] w (RetInts (Can.srt (clz ss) text) w) := by
  refine (Sort_stp A' ns ks ss _ A nt kt text w hS hT hnt hns hb1 hb2 hL rfl).mono ?_
  rintro e w' ⟨A1, c, d, rfl, hc, hI, hs, hb⟩
  obtain rfl := Can.stp_srt (fun x => (clz_range ss x).1) hs
  have hl : (Can.srt (clz ss) text).length = nt := by rw [Can.srt_len, hnt]
  exact ⟨A1, c, by rw [hl], by omega, hI, hb⟩

end Go.Proofs.YthagfcdleapooaaDoor
