/- Texts that are merged into one file: OSortC, DTextA, DTextB, MadeAny, DtxIok, RefFind, TabPlain, MtcParts. -/
import Derived.Test.YtpfbnikbebccjaaGreatDoorG09
import Derived.Test.YtpfbnikbebccjaaGreatDoorG10
import Derived.Test.YtpfbnikbebccjaaGreatDoorG14
import Derived.Test.YtpfbnikbebccjaaGreatDoorG15
import Derived.Test.YtpfbnikbebccjaaGreatDoorG16
import Derived.Test.YtpfbnikbebccjaaGreatDoorG18
import Derived.Test.YtpfbnikbebccjaaGreatDoorG19
import Derived.Deep.Cut
/- The contract of ordering.Sort, the walk. -/
namespace Go.Proofs.YtpfbnikbebccjaaGreatDoor
open Go.RowKit Go.Shelf
attribute [local go_sem] Oper.semAt_some

/-- spans do not lie in the box of a slice -/
theorem Sl.not_box {W : World} {A : Option Addr} {cs : List Value} {B : Nat} {t : TypeId} {v : Value} (h : Sl W A cs) (hb : Boxed W B t v) (hv : ∀ k i, v ≠ .int k i) {x : Value} {r : List Value} (hcs : cs = x :: r) {k : IntKind} {i : Int} (hx : x = .int k i) : ∀ b o, A = some ⟨b, o, none⟩ → b ≠ B := by
  rintro b o rfl rfl
  subst hcs; subst hx
  obtain ⟨b', o', hA, hc⟩ := h (by simp)
  injection hA with hA
  injection hA with h1 h2
  subst h1; subst h2
  have := hc 0 _ rfl
  rw [cell_of_row W b _ _ _ (0, 0) hb] at this
  simp at this
  cases o with
  | zero => simp at this; exact hv _ _ this
  | succ o => simp at this

theorem Spans.not_box {W : World} {A : Option Addr} {ts : List Spn} {B : Nat} {t : TypeId} {v : Value} (h : Spans W A ts) (hb : Boxed W B t v) (hv : ∀ k i, v ≠ .int k i) (hne : ts ≠ []) : ∀ b o, A = some ⟨b, o, none⟩ → b ≠ B := by
  cases ts with
  | nil => exact absurd rfl hne
  | cons s r => exact Sl.not_box (cs := flat3 (s :: r)) h hb hv rfl rfl

theorem Sl.set_box {W : World} {A : Option Addr} {cs : List Value} {B : Nat} (h : Sl W A cs) (hne : cs ≠ [] → ∀ b o, A = some ⟨b, o, none⟩ → b ≠ B) (v : Value) : Sl (W.setCell ⟨B, 0, none⟩ v) A cs := by
  intro hc
  obtain ⟨b, o, rfl, h1⟩ := h hc
  refine ⟨b, o, rfl, fun j u hu => ?_⟩
  have : b ≠ B := hne hc b o rfl
  rw [← h1 j u hu]
  exact World.cell?_of_block (w := W) (Below.heap_setCell _ _ _ b (by rintro rfl; exact this rfl))

theorem below_set {n : Nat} {w W : World} (h : Below n w W) {B : Nat} (hB : n ≤ B) (v : Value) : Below n w (W.setCell ⟨B, 0, none⟩ v) :=
  ⟨h.os, h.tape, h.output, by have := h.size; simpa [World.setCell] using this, fun k hk => (Below.heap_setCell _ _ _ k (fun e => by have : k = B := (by first | exact e | exact e.symm); omega)).trans (h.block k hk)⟩

theorem Within.mono {n n' bo : Nat} {A : Option Addr} (h : Within n bo A) (hn : n ≤ n') : Within n' bo A := fun b o e => ⟨Nat.lt_of_lt_of_le (h b o e).1 hn, (h b o e).2⟩

theorem own_block {w : World} {base top : Nat} {e : TypeId} {A : Option Addr} {n c : Nat} {xs : List Value} (h : w.ownsRow base e 1 (.slice A n c) n xs) (hb : base ≤ top) : ∃ bo, base ≤ bo ∧ (bo < w.heap.size ∨ bo = top) ∧ ∀ g o, A = some ⟨g, o, none⟩ → g = bo := by
  rcases h.2 with ⟨hv, _⟩ | ⟨g, cap, cur, hv, hg, hgb, _⟩
  · injection hv with hA
    exact ⟨top, hb, .inr rfl, fun g o e => by rw [hA] at e; cases e⟩
  · injection hv with hA
    exact ⟨g, hg, .inl (Array.getElem?_eq_some_iff.1 hgb).1, fun g' o e => by rw [hA] at e; injection e with e; injection e with e; exact e.symm⟩

theorem keepsOthers_grown {W W' : World} {b : Nat} {c : Array Value} {t : TypeId} {f : Nat × Nat} (hg : W.grownBy W' (some b)) (hb : W.heap[b]? = some (.cells c t f)) : KeepsOthers W W' :=
  ⟨hg.size, fun k o hk ho => (hg.block k (Array.getElem?_eq_some_iff.1 hk).1 (fun e => by injection e with e; subst e; rw [hb] at hk; cases hk; cases ho)).trans hk⟩

theorem own_mono {w : World} {base b : Nat} {e : TypeId} {size n : Nat} {v : Value} {xs : List Value} (h : w.ownsRow base e size v n xs) (hb : b ≤ base) : w.ownsRow b e size v n xs := by
  refine ⟨h.1, ?_⟩
  rcases h.2 with h2 | ⟨g, cap, cur, hv, h1, rest⟩
  · exact .inl h2
  · exact .inr ⟨g, cap, cur, hv, Nat.le_trans hb h1, rest⟩
set_option maxRecDepth 100000 in
set_option maxHeartbeats 4000000 in
theorem Sort_stp (A' : Option Addr) (ns ks : Nat) (ss ts : List Spn) (A : Option Addr) (nt kt : Nat) (text : List Int) (w : World) (hS : Spans w A' ss) (hT : Ints w A text)
    (hnt : text.length = nt) (hns : ss.length = ns) (hb1 : nt ≤ 1048576) (hb2 : ns ≤ 1099511627776) (hL : Laid w) (hts : us ss = ts) :
    Calls Tryz.prog 150 #[.slice A' ns ks, .slice A nt kt] w (fun e w' => ∃ A1 c d, e = .returned (.slice A1 nt c) ∧ nt ≤ c ∧ w'.ownsRow w.heap.size 3 1 (.slice A1 nt c) nt (d.map (Value.int .i64)) ∧ Srt.Stp (cls ts) text (rns (cls ts) text 0 none) d ∧ Below w.heap.size w w') := by
  have hle := us_len ss
  have U := Lib.hid (fun W hb (hL : Laid W) => usable_any A' ns ks ss W (Spans.below (w := w) (w' := W) hS hb) hns hb2 hL)
  have hasc := Lib.hid (us_asc ss)
  rw [hts] at hle hasc U
  have HT := Lib.hid hT
  have HL := Lib.hid hL
  clear hT hS hL hts
  rw [hns] at hle
  refine (callsIn_wide (n := 6)).1 ?_
  refine callsIn_of_wp_marks Tryz.func150 rfl trivial ?_ rfl
  simp only [Tryz.ntmps150, List.size_toArray, List.length_cons, List.length_nil, Nat.reduceAdd, Nat.reduceSub, Array.replicate_succ, Array.replicate_zero, List.push_toArray, List.append_toArray, List.nil_append, List.cons_append]
  gi_wp2_with fail
  refine ⟨trivial, (callsIn_wide.2 (U.out _ ((Below.refl _ w).alloc (Nat.le_refl _) _) (HL.out.below ((Below.refl _ w).alloc (Nat.le_refl _) _)))).mono ?_⟩
  rintro e w1 ⟨A1, k1, rfl, hA1, hbw1⟩
  have bL : Boxed w1 w.heap.size 22 (.slice A' ns ks) := (hbw1.block w.heap.size (by simp)).trans (Boxed.new w 22 (.slice A' ns ks))
  have hB1 : Below w.heap.size w w1 := ((Below.refl _ w).alloc (Nat.le_refl _) _).trans (hbw1.mono (by simp))
  have cL := bL.cell
  have fL := bL.frozen
  have HA1 := Lib.hid hA1
  clear hbw1 hA1
  gi_wp2_with fail
  have bL2 := bL.set (.slice A1 ts.length k1)
  have hB2 := below_set hB1 (Nat.le_refl _) (.slice A1 ts.length k1)
  have hnb : ts ≠ [] → ∀ b o, A1 = some ⟨b, o, none⟩ → b ≠ w.heap.size := fun hne => Spans.not_box HA1.out bL (by rintro k i h; cases h) hne
  have hA2 : Spans (w1.setCell ⟨w.heap.size, 0, none⟩ (.slice A1 ts.length k1)) A1 ts := Sl.set_box HA1.out (fun h => hnb (by rintro rfl; exact h rfl)) _
  have HNB := Lib.hid hnb
  clear HA1 hnb bL cL fL hB1
  obtain ⟨w2, hw2⟩ : ∃ w2, w1.setCell ⟨w.heap.size, 0, none⟩ (.slice A1 ts.length k1) = w2 := ⟨_, rfl⟩
  rw [hw2] at bL2 hB2 hA2 ⊢
  clear hw2
  refine ⟨trivial, (callsIn_wide.2 (cloneI_any A nt kt text w2 (HT.out.below hB2) hnt hb1)).mono ?_⟩
  rintro e w3 ⟨A3, c3, rfl, hown3, hbw3⟩
  have bL3 : Boxed w3 w.heap.size 22 (.slice A1 ts.length k1) := (hbw3.block _ bL2.lt).trans bL2
  have hA3 := hA2.below hbw3
  have hB3 := hB2.trans (hbw3.mono hB2.size)
  have hs3 := hbw3.size
  have hlt2 := bL2.lt
  rw [hnt] at hown3 ⊢
  have HOWN := Lib.hid hown3
  have HA3 := Lib.hid hA3
  have HWI := Lib.hid (fun hne bo hbo => Sl.lt hA2 (cs := flat3 ts) hne bo hbo)
  clear hbw3 hA2 bL2 hB2 hown3 hA3
  have cL := (bL3.alloc (.cells #[.slice A3 nt c3] 49)).cell
  gi_wp2_with fail
  refine ⟨trivial, (callsIn_wide.2 (runs_any A nt kt A1 ts.length k1 _)).mono ?_⟩
  rintro e W0 ⟨rfl, hW0⟩
  simp only [World.size_alloc] at hW0 ⊢
  have hsz : W0.heap.size = w3.heap.size + 3 := by rw [← hW0]; simp
  have hM : Mem (w3.heap.size + 1 + 1) (w3.heap.size + 1) A nt kt text A1 ts.length k1 ts W0 := by
    rw [← hW0]
    refine ⟨?_, ?_, Sl.alloc (Sl.alloc (Sl.alloc (HT.out.below hB3) _) _) _, Sl.alloc (Sl.alloc (Sl.alloc HA3.out _) _) _⟩
    · have h := (Boxed.new ((w3.alloc (.cells #[.slice A3 nt c3] 49)).alloc (.cells #[.slice A1 ts.length k1] 22)) 49 (.slice A nt kt)).cell
      rw [World.size_alloc, World.size_alloc] at h
      exact h
    · have h := ((Boxed.new (w3.alloc (.cells #[.slice A3 nt c3] 49)) 22 (.slice A1 ts.length k1)).alloc (.cells #[.slice A nt kt] 49)).cell
      rw [World.size_alloc] at h
      exact h
  have hI0 : SortI (cls ts) text w2.heap.size w3.heap.size w.heap.size A3 nt c3 A1 ts.length k1 ts w [] W0 := by
    rw [← hW0]
    refine SortI.alloc (SortI.alloc ?_ _) _
    exact ⟨Boxed.new _ _ _, ⟨text, HOWN.out.alloc _, rfl⟩, cL, Sl.alloc HA3.out _, hB3.alloc hB3.size _⟩
  obtain ⟨bo, hbo1, hbo2, hbo3⟩ := own_block HOWN.out (top := w3.heap.size + 3) (by omega)
  obtain ⟨all, hall⟩ := rg_all (n := nt) (rns (cls ts) text 0 none) (fun r hr => by have := rns_in (cls ts) text 0 none (fun _ h => by cases h) r hr; omega)
  have HALL := Lib.hid hall; clear hall
  have HM := Lib.hid hM; clear hM
  have HB := Lib.hid hbo3; clear hbo3
  clear hW0 cL bL3 HA3 HOWN
  gi_wp2_with fail
  refine wpIn_rangeFunc_ownH rfl (by omega) (gf := 134) (lb := #[.pointer (some ⟨w3.heap.size + 1 + 1, 0, none⟩), .pointer (some ⟨w3.heap.size + 1, 0, none⟩)]) rfl trivial (enters_of Tryz.func134 (by kernel_rfl) rfl)
    (runs_stops (α := RgN nt) (fun x => x.1) 5 (by omega) W0.heap.size bo (w3.heap.size + 1 + 1) (w3.heap.size + 1) A nt kt text A1 ts.length k1 ts all W0 HALL.out hnt rfl (by omega) (by omega) hasc.out ⟨by omega, by omega⟩ ⟨by omega, by omega⟩
      (fun hne => (Sl.lt HT.out (by simpa using hne) _ (by omega)).mono (by have := hB3.size; omega)) (fun hne => (HWI.out (by cases ts with | nil => exact absurd rfl hne | cons s r => simp [flat3]) _ hbo1).mono (by omega)) HM.out)
    (fun h k => h.trans k) (fun W l o o' hl h hc hw => keepX_of_below (belowK_b (w := W0) (by omega) W l o o' hl h hc hw)) (Below.refl _ _) (fun _ => rfl)
    (fun pre W => SortI (cls ts) text w2.heap.size w3.heap.size w.heap.size A3 nt c3 A1 ts.length k1 ts w (pre.map fun x => x.1) W ∧ W0.heap.size ≤ W.heap.size)
    (fun _ _ _ => False)
    (OwnFrom.and (SortI.own _ (by have := hB3.size; omega)) (fun _ _ _ _ h hg _ => Nat.le_trans h hg.size))
    (fun _ _ _ _ _ hs _ _ => hs)
    ⟨hI0, Nat.le_refl _⟩
    (fun x a' W => ∃ Bx, w3.heap.size < Bx ∧ W.heap[Bx]? = some (.cells #[.int .i64 (x.1.1 : Int), .int .i64 (x.1.2 : Int)] 126 (0, 0)) ∧ a' = { tmps := #[.slice A' ns ks, .slice A nt kt, .pointer (some ⟨w.heap.size, 0, none⟩), undef, .slice none 0 0, .pointer (some ⟨w3.heap.size, 0, none⟩), .pointer (some ⟨Bx, 0, none⟩), .slice A' ns ks, .slice A1 ts.length k1, .slice A nt kt, .slice A3 nt c3, .slice A1 ts.length k1, .slice A nt kt, .func (.func 134) #[] #[.pointer (some ⟨w3.heap.size + 1 + 1, 0, none⟩), .pointer (some ⟨w3.heap.size + 1, 0, none⟩)], .agg #[.int .i64 (x.1.1 : Int), .int .i64 (x.1.2 : Int)], undef, undef, undef, undef, undef, undef, undef, undef, undef], defers := [] })
    (fun x a' _ X Y row hs hg hr => by
      obtain ⟨Bx, h1, h2, h3⟩ := hs
      refine ⟨Bx, h1, (hg.block Bx (Array.getElem?_eq_some_iff.1 h2).1 (fun e => ?_)).trans h2, h3⟩
      obtain ⟨_, o, ho, hc⟩ := hr Bx e.symm
      rw [h2] at ho; cases ho; cases hc)
    ?assign ?body ?done ?stop
  case assign =>
    rintro l pre x W K ⟨hI1, hWs⟩ hK
    unfold encR at *
    gi_wp2
    exact hK _ _ ((KeepsOthers.alloc _ _).from _) (keepX_of_below ((Below.refl _ W).alloc hWs _)) ⟨hI1.alloc _, by rw [World.size_alloc]; omega⟩ ⟨W.heap.size, hI1.box.lt, heap_alloc_new W _, rfl⟩
  case body =>
    rintro l pre ⟨⟨lo, hi⟩, hx1, hx2⟩ a' W hl ⟨r, hr⟩ ⟨hI1, hWs⟩ ⟨Bx, hBx, bX, rfl⟩ hlt
    dsimp only at hx1 hx2 bX ⊢
    obtain ⟨d, hrow, hstp⟩ := hI1.row
    obtain ⟨g, post, rfl, hg1, hRow, hdl, hcl, hcm⟩ := own_row hrow (by omega)
    obtain rfl := HB.out g 0 rfl
    have cS := hI1.box.cell
    have x0 : W.cell? ⟨Bx, 0, none⟩ = some (.int .i64 (lo : Int)) := by rw [cell_of_row W Bx 0 _ _ (0, 0) bX]; rfl
    have x1 : W.cell? ⟨Bx, 1, none⟩ = some (.int .i64 (hi : Int)) := by rw [cell_of_row W Bx 1 _ _ (0, 0) bX]; rfl
    have HSTP := Lib.hid hstp
    have HROW := Lib.hid hRow
    have HI := Lib.hid hI1
    clear hstp hRow hrow hI1
    gi_wp2_with fail
    have hseg : ((d.drop lo).take (hi - lo)).length = hi - lo := by simp; omega
    have HCUT := Lib.hid (HROW.out.cut (lo := lo) (hi := hi) (by omega) (by omega))
    have HC := Lib.hid (cmps_of (b := g) HI.out.l HI.out.sp rfl (by omega) hasc.out (by omega) (fun hne o e => (HWI.out (by cases ts with | nil => exact absurd rfl hne | cons s r => simp [flat3]) g hbo1 g o e).2 rfl))
    refine ⟨trivial, (CallsIn.inRound l (callsIn_wide.2 (SortStable_any g w.heap.size lo (hi - lo) (c3 - lo) 3 (cls ts) _ _ _ W HCUT.out hseg (by omega) HC.out))).mono ?_⟩
    rintro e W5 ⟨rfl, d5, hD, hR5, hg5⟩
    have hko : KeepsOthers W W5 := keepsOthers_grown hg5 HROW.out.2
    have hkx : KeepX W0.heap.size g W W5 := ⟨hg5.size, fun k hk hne => hg5.block k (by omega) (by intro e; injection e with e; exact hne e)⟩
    have hR6 := hR5.uncut
    have hd5 : d5.length = hi - lo := hD.1.1.trans hseg
    have hout : d.take lo ++ (d.drop lo).take (hi - lo) ++ d.drop hi = d := by
      have := Srt.parts d lo lo hi (Nat.le_refl _) (by omega)
      simp only [Nat.sub_self, List.take_zero, List.nil_append] at this
      exact this.symm
    have hdone : Srt.Done (cls ts) d (d.take lo ++ d5 ++ d.drop hi) lo hi := by
      have h1 := Srt.Done.lift (p := d.take lo) (q := d.drop hi) (show Srt.Done (cls ts) ((d.drop lo).take (hi - lo)) d5 0 _ by rw [hseg]; exact hD)
      rw [hout, hseg, show (d.take lo).length = lo by simp; omega, show lo + (hi - lo) = hi by omega] at h1
      exact h1
    have hI5 : SortI (cls ts) text w2.heap.size w3.heap.size w.heap.size (some ⟨g, 0, none⟩) nt c3 A1 ts.length k1 ts w ((pre ++ [(⟨(lo, hi), hx1, hx2⟩ : RgN nt)]).map fun x => x.1) W5 := by
      have hcell : ∀ p : Addr, p.block < W.heap.size → p.block ≠ g → W5.cell? p = W.cell? p := fun p h1 h2 => World.cell?_of_block (w := W) (hg5.block p.block h1 (fun e => h2 (by injection e)))
      refine ⟨HI.out.box.kept hg5 (fun e => ?_), ⟨_, row_own hR6 hg1 (by simp [hd5]; omega) hcl hcm, ?_⟩, ?_, ?_, ?_⟩
      · injection e with e; omega
      · rw [List.map_append]
        exact Srt.Stp.snoc (r := (lo, hi)) HSTP.out hdone
      · exact (hcell _ (World.block_lt_of_cell? W _ HI.out.l) (by simp; omega)).trans HI.out.l
      · intro hne
        obtain ⟨b', o', hA, hcs⟩ := HI.out.sp hne
        refine ⟨b', o', hA, fun j u hu => ?_⟩
        have h1 := hcs j u hu
        exact (hcell _ (World.block_lt_of_cell? W _ h1) (by rintro rfl; exact (HWI.out hne _ hbo1 _ _ hA).2 rfl)).trans h1
      · exact HI.out.bel.grown hg5 HI.out.bel.size (fun k e => by injection e with e; omega)
    have hsz5 := hg5.size
    clear hD hR5 hR6 hg5 HCUT HC HROW HI HSTP hdone hout
    gi_wp2_with fail
    exact ⟨hko.from _, hkx, hI5, by omega⟩
  case done => 
    rintro D ys W hD rfl ⟨hI1, hWs⟩ hK
    obtain ⟨d, hrow, hstp⟩ := hI1.row
    have cS := hI1.box.cell
    have HRow := Lib.hid (ownsRow_putObj hrow (.deferred none) hK rfl)
    have HBel := Lib.hid (hI1.bel.trans (belowK_b (w := w) (Nat.le_refl _) W D _ (.deferred none) (by have := hB3.size; omega) hK rfl rfl))
    have HSTP := Lib.hid hstp
    have hcv : nt ≤ c3 := by obtain ⟨Av, cv, hv, hcv⟩ := own_form hrow; injection hv with _ _ h; omega
    clear hrow hstp
    gi_wp2_with fail
    refine ⟨by simp, .inl ⟨_, _, rfl, run_takeDeferred hK, ?_⟩⟩
    refine ⟨_, results_tmp rfl _ _ _, A3, c3, d, rfl, ?_, own_mono HRow.out (by omega), ?_, HBel.out⟩
    · exact hcv
    · have := HSTP.out; rw [HALL.out] at this; exact this
  case stop =>
    rintro D c pre W _ _ h _
    exact h.elim

/-- the text in order, in a row that the caller owns -/
theorem Sort_own (A' : Option Addr) (ns ks : Nat) (ss : List Spn) (A : Option Addr) (nt kt : Nat) (text : List Int) (w : World) (hS : Spans w A' ss) (hT : Ints w A text)
    (hnt : text.length = nt) (hns : ss.length = ns) (hb1 : nt ≤ 1048576) (hb2 : ns ≤ 1099511627776) (hL : Laid w) :
    Calls Tryz.prog 150 #[.slice A' ns ks, .slice A nt kt] w (RetOwnI (Can.srt (clz ss) text) w) := by
  refine (Sort_stp A' ns ks ss _ A nt kt text w hS hT hnt hns hb1 hb2 hL rfl).mono ?_
  rintro e w' ⟨A1, c, d, rfl, hc, hI, hs, hb⟩
  obtain rfl := Can.stp_srt (fun x => (clz_range ss x).1) hs
  have hl : (Can.srt (clz ss) text).length = nt := by rw [Can.srt_len, hnt]
  exact ⟨A1, c, by rw [hl], by rw [hl]; exact hI, hb⟩

end Go.Proofs.YtpfbnikbebccjaaGreatDoor
/- Contracts of decompose.usable, expander, Text. -/
namespace Go.Proofs.YtpfbnikbebccjaaGreatDoor
open Go.RowKit Go.Maps Go.WideMaps

set_option maxRecDepth 100000 in
set_option maxHeartbeats 1600000 in
theorem dUsable_eq (A0 : Option Addr) (n0 k0 : Nat) (A1 : Option Addr) (n1 k1 : Nat) (A2 : Option Addr) (n2 k2 : Nat) (x : Nrm) (w : World) (hN : NrmAt w A0 n0 A1 n1 A2 n2 x) (hz : NrmSz x) (hL : Laid w) :
    Calls Tryz.prog 148 #[.agg #[.slice A0 n0 k0, .slice A1 n1 k1, .slice A2 n2 k2]] w (fun e w' => e = .returned (usV x A0 k0 A1 k1 A2 k2) ∧ Below w.heap.size w w') := by
  obtain ⟨hS, hM, hR, rfl, rfl, rfl⟩ := hN
  have B0 : Below w.heap.size w ((w.alloc (.cells #[.slice A0 x.cls.length k0, .slice A1 x.dec.length k1, .slice A2 x.exc.length k2] 28)).alloc (.cells #[.slice none 0 0, .slice none 0 0, .slice none 0 0] 28)) := ((Below.refl _ _).alloc (Nat.le_refl _) _).alloc (by simp) _
  have X0 : Box ((w.alloc (.cells #[.slice A0 x.cls.length k0, .slice A1 x.dec.length k1, .slice A2 x.exc.length k2] 28)).alloc (.cells #[.slice none 0 0, .slice none 0 0, .slice none 0 0] 28)) w.heap.size 28 [.slice A0 x.cls.length k0, .slice A1 x.dec.length k1, .slice A2 x.exc.length k2] :=
    (Box.new w _ [.slice A0 x.cls.length k0, .slice A1 x.dec.length k1, .slice A2 x.exc.length k2] rfl).below (B := w.heap.size + 1) ((Below.refl _ _).alloc (by simp) _) (by omega)
  have X1 : Box ((w.alloc (.cells #[.slice A0 x.cls.length k0, .slice A1 x.dec.length k1, .slice A2 x.exc.length k2] 28)).alloc (.cells #[.slice none 0 0, .slice none 0 0, .slice none 0 0] 28)) (w.heap.size + 1) 28 [.slice none 0 0, .slice none 0 0, .slice none 0 0] := Box.new _ _ _ (by simp)
  have W0E : ∃ W0, ((w.alloc (.cells #[.slice A0 x.cls.length k0, .slice A1 x.dec.length k1, .slice A2 x.exc.length k2] 28)).alloc (.cells #[.slice none 0 0, .slice none 0 0, .slice none 0 0] 28)) = W0 := ⟨_, rfl⟩
  have hN : ∀ W, Below w.heap.size w W → NrmAt W A0 x.cls.length A1 x.dec.length A2 x.exc.length x := fun W hb => ⟨hS.below hb, hM.below hb, hR.below hb, rfl, rfl, rfl⟩
  have CC := Lib.hid (fun W (hb : Below w.heap.size w W) => dCheck_any A0 x.cls.length k0 A1 x.dec.length k1 A2 x.exc.length k2 x W (hN W hb) hz (hL.below hb))
  have UB := Lib.hid (usV_bad (x := x) A0 k0 A1 k1 A2 k2)
  have UG := Lib.hid (usV_good (x := x) A0 k0 A1 k1 A2 k2)
  clear hN hS hM hR hz
  generalize hu : usV x A0 k0 A1 k1 A2 k2 = y at *
  generalize hc : nErr x = c at *
  clear hu hc
  go_enter Tryz.func148, Tryz.ntmps148
  go_wp2_with fail
  obtain ⟨W0, hW0⟩ := W0E
  rw [hW0] at B0 X0 X1 ⊢
  clear hW0
  have s0 := X0.lt
  have s1 := X1.lt
  have c0 := X0.cell (i := 0) rfl
  have c1 := X0.cell (i := 1) rfl
  have c2 := X0.cell (i := 2) rfl
  go_wp2_with fail
  with_reducible refine (CC.out _ B0).mono ?_
  rintro e W1 ⟨rfl, hb1⟩
  have Y0 := X0.below hb1 s0
  have Y1 := X1.below hb1 s1
  have B1 := B0.trans (hb1.mono B0.size)
  clear c0 c1 c2 X0 X1 B0 hb1
  have c0 := Y0.cell (i := 0) rfl
  have c1 := Y0.cell (i := 1) rfl
  have c2 := Y0.cell (i := 2) rfl
  have d0 := Y1.cell (i := 0) rfl
  have d1 := Y1.cell (i := 1) rfl
  have d2 := Y1.cell (i := 2) rfl
  have f0 := Y1.free 0
  have f1 := Y1.free 1
  have f2 := Y1.free 2
  have HB := Lib.hid (fun (u0 u1 u2 : Value) => show Below w.heap.size w (((W1.setCell ⟨w.heap.size + 1, 0, none⟩ u0).setCell ⟨w.heap.size + 1, 1, none⟩ u1).setCell ⟨w.heap.size + 1, 2, none⟩ u2) from ((B1.setCell (by simp) _).setCell (by simp) _).setCell (by simp) _)
  by_cases h0 : c = 0
  · have HY := Lib.hid (UG.out h0)
    subst h0
    go_wp2_with fail
    (try simp only [Exit.inBlock, Exit.then]); refine bodyPost_ret (results_nrm rfl _ _ (b := w.heap.size + 1) (v0 := .slice A0 x.cls.length k0) (v1 := .slice A1 x.dec.length k1) (v2 := .slice A2 x.exc.length k2) rfl (by go_simp) (by go_simp) (by go_simp)) rfl ?_
    exact ⟨by rw [HY.out], HB.out _ _ _⟩
  · have HY := Lib.hid (UB.out h0)
    have h1 : (c != 0) = true := by simpa using h0
    go_wp2_with fail
    (try simp only [Exit.inBlock, Exit.then]); refine bodyPost_ret (results_nrm rfl _ _ (b := w.heap.size + 1) (v0 := .slice none 0 0) (v1 := .slice none 0 0) (v2 := .slice none 0 0) rfl (by go_simp) (by go_simp) (by go_simp)) rfl ?_
    exact ⟨by rw [HY.out], HB.out _ _ _⟩

/-- the memory of the closure at its beginning -/
theorem XM_new (A0 : Option Addr) (n0 k0 : Nat) (A1 : Option Addr) (n1 k1 : Nat) (A2 : Option Addr) (n2 k2 : Nat) (ms : List Mp) (compat : Bool) (w w5 : World)
    (h : (((((w.alloc (.cells #[.slice A0 n0 k0, .slice A1 n1 k1, .slice A2 n2 k2] 28)).alloc (.cells #[.bool compat] 4)).alloc (.map #[] 0)).alloc (.cells #[.map (some (w.heap.size + 1 + 1))] 219)).alloc (.cells #[.func (.func 171) #[] #[.pointer (some ⟨w.heap.size + 1 + 1 + 1, 0, none⟩), .pointer (some ⟨w.heap.size, 0, none⟩), .pointer (some ⟨w.heap.size + 1, 0, none⟩), .pointer (some ⟨w.heap.size + 1 + 1 + 1 + 1, 0, none⟩)]] 169)) = w5) :
    XM A0 n0 k0 A1 n1 k1 A2 n2 k2 ms compat w.heap.size w5 0 (fun _ => none) ∧ Below w.heap.size w w5 := by
  subst h
  have al : ∀ (W : World) (o : Obj), Below W.heap.size W (W.alloc o) := fun W o => (Below.refl _ _).alloc (Nat.le_refl _) _
  obtain ⟨w1, h1⟩ : ∃ w1, w.alloc (.cells #[.slice A0 n0 k0, .slice A1 n1 k1, .slice A2 n2 k2] 28) = w1 := ⟨_, rfl⟩
  have x1 : Box w1 w.heap.size 28 [.slice A0 n0 k0, .slice A1 n1 k1, .slice A2 n2 k2] := by rw [← h1]; exact Box.new _ _ _ rfl
  have b1 : Below w.heap.size w w1 := by rw [← h1]; exact al _ _
  have s1 : w1.heap.size = w.heap.size + 1 := by rw [← h1]; simp
  rw [h1]
  obtain ⟨w2, h2⟩ : ∃ w2, w1.alloc (.cells #[.bool compat] 4) = w2 := ⟨_, rfl⟩
  have x2 : Box w2 (w.heap.size + 1) 4 [.bool compat] := by rw [← h2]; exact Box.new _ _ _ s1.symm
  have b2 : Below w1.heap.size w1 w2 := by rw [← h2]; exact al _ _
  have s2 : w2.heap.size = w.heap.size + 2 := by rw [← h2]; simp [s1]
  rw [h2]
  obtain ⟨w3, h3⟩ : ∃ w3, w2.alloc (.map #[] 0) = w3 := ⟨_, rfl⟩
  have x3 : MapI w3 (w.heap.size + 2) 0 (fun _ => none) := by rw [← h3, ← s2]; exact MapIs.made _ _ _ _ _
  have b3 : Below w2.heap.size w2 w3 := by rw [← h3]; exact al _ _
  have s3 : w3.heap.size = w.heap.size + 3 := by rw [← h3]; simp [s2]
  rw [h3]
  obtain ⟨w4, h4⟩ : ∃ w4, w3.alloc (.cells #[.map (some (w.heap.size + 1 + 1))] 219) = w4 := ⟨_, rfl⟩
  have x4 : Box w4 (w.heap.size + 3) 219 [.map (some (w.heap.size + 2))] := by rw [← h4]; exact Box.new _ _ _ s3.symm
  have b4 : Below w3.heap.size w3 w4 := by rw [← h4]; exact al _ _
  have s4 : w4.heap.size = w.heap.size + 4 := by rw [← h4]; simp [s3]
  rw [h4]
  obtain ⟨w5, h5⟩ : ∃ w5, w4.alloc (.cells #[.func (.func 171) #[] #[.pointer (some ⟨w.heap.size + 1 + 1 + 1, 0, none⟩), .pointer (some ⟨w.heap.size, 0, none⟩), .pointer (some ⟨w.heap.size + 1, 0, none⟩), .pointer (some ⟨w.heap.size + 1 + 1 + 1 + 1, 0, none⟩)]] 169) = w5 := ⟨_, rfl⟩
  have x5 : Box w5 (w.heap.size + 4) 169 [.func (.func 171) #[] #[.pointer (some ⟨w.heap.size + 3, 0, none⟩), .pointer (some ⟨w.heap.size, 0, none⟩), .pointer (some ⟨w.heap.size + 1, 0, none⟩), .pointer (some ⟨w.heap.size + 4, 0, none⟩)]] := by rw [← h5]; exact Box.new _ _ _ s4.symm
  have b5 : Below w4.heap.size w4 w5 := by rw [← h5]; exact al _ _
  rw [h5]
  have b45 := b5
  have b35 := b4.trans (b5.mono b4.size)
  have b25 := b3.trans (b35.mono b3.size)
  have b15 := b2.trans (b25.mono b2.size)
  exact ⟨⟨x1.below b15 x1.lt, x2.below b25 x2.lt, x3.below b35, x4.below b45 x4.lt, x5, fun c v e => (by cases e)⟩, b1.trans (b15.mono b1.size)⟩

def RetExp (A0 : Option Addr) (n0 k0 : Nat) (A1 : Option Addr) (n1 k1 : Nat) (A2 : Option Addr) (n2 k2 : Nat) (ms : List Mp) (compat : Bool) (w : World) (e : Ending) (w' : World) : Prop :=
  e = .returned (.func (.func 171) #[] #[.pointer (some ⟨w.heap.size + 3, 0, none⟩), .pointer (some ⟨w.heap.size, 0, none⟩), .pointer (some ⟨w.heap.size + 1, 0, none⟩), .pointer (some ⟨w.heap.size + 4, 0, none⟩)]) ∧ XM A0 n0 k0 A1 n1 k1 A2 n2 k2 ms compat w.heap.size w' 0 (fun _ => none) ∧ Below w.heap.size w w'

set_option maxRecDepth 100000 in
set_option maxHeartbeats 1600000 in
theorem expander_any (A0 : Option Addr) (n0 k0 : Nat) (A1 : Option Addr) (n1 k1 : Nat) (A2 : Option Addr) (n2 k2 : Nat) (ms : List Mp) (compat : Bool) (w : World) :
    Calls Tryz.prog 149 #[.agg #[.slice A0 n0 k0, .slice A1 n1 k1, .slice A2 n2 k2], .bool compat] w (RetExp A0 n0 k0 A1 n1 k1 A2 n2 k2 ms compat w) := by
  have hmm := @run_makeMap Tryz.prog
  have hsf := fun (W : World) (a : Addr) (m : Mode) (fn : Fn) (x y : Array Value) => run_store Tryz.prog W a (.func fn x y) m rfl
  go_enter Tryz.func149, Tryz.ntmps149
  go_wp2_with fail
  obtain ⟨W0, hW0⟩ : ∃ W0, (((((w.alloc (.cells #[.slice A0 n0 k0, .slice A1 n1 k1, .slice A2 n2 k2] 28)).alloc (.cells #[.bool compat] 4)).alloc (.map #[] 0)).alloc (.cells #[.map (some (w.heap.size + 1 + 1))] 219)).alloc (.cells #[.func (.func 171) #[] #[.pointer (some ⟨w.heap.size + 1 + 1 + 1, 0, none⟩), .pointer (some ⟨w.heap.size, 0, none⟩), .pointer (some ⟨w.heap.size + 1, 0, none⟩), .pointer (some ⟨w.heap.size + 1 + 1 + 1 + 1, 0, none⟩)]] 169)) = W0 := ⟨_, rfl⟩
  obtain ⟨hM0, hB0⟩ := XM_new A0 n0 k0 A1 n1 k1 A2 n2 k2 ms compat w W0 hW0
  go_ret
  exact ⟨rfl, by rw [hW0]; exact hM0, by rw [hW0]; exact hB0⟩
end Go.Proofs.YtpfbnikbebccjaaGreatDoor
/- The contract of decompose.Text: the text's full decomposition in order, in a row that the caller owns. -/
namespace Go.Proofs.YtpfbnikbebccjaaGreatDoor
open Go.RowKit Go.Maps Go.WideMaps

/-- the decomposed text -/
def dtx (x : Nrm) (compat : Bool) (t : List Int) : List Int := Can.srt (clz (usN x).cls) (flM (usN x) compat t)
theorem flM_take (x : Nrm) (compat : Bool) {t : List Int} {i : Nat} (hi : i < t.length) : flM x compat (t.take (i + 1)) = flM x compat (t.take i) ++ dcM x.dec compat t[i] := by
  unfold flM
  rw [List.take_succ_eq_append_getElem hi, List.flatMap_append, List.flatMap_singleton]
theorem flM_le {x : Nrm} (h : NOk x) (compat : Bool) (t : List Int) (i : Nat) : (flM x compat (t.take i)).length ≤ 64 * t.length := by
  have := flM_len h compat (t.take i)
  rw [List.length_take] at this
  omega

set_option maxRecDepth 100000 in
set_option maxHeartbeats 6400000 in
theorem dText_own (A0 : Option Addr) (n0 k0 : Nat) (A1 : Option Addr) (n1 k1 : Nat) (A2 : Option Addr) (n2 k2 : Nat) (x : Nrm) (A : Option Addr) (n k : Nat) (t : List Int) (compat : Bool) (w : World) (hN : NrmAt w A0 n0 A1 n1 A2 n2 x) (hz : NrmSz x) (hL : Laid w) (hA : Ints w A t) (hn : t.length = n) (hbig : n ≤ 16384) (hio : ∀ c ∈ t, iok c) :
    Calls Tryz.prog 121 #[.agg #[.slice A0 n0 k0, .slice A1 n1 k1, .slice A2 n2 k2], .slice A n k, .bool compat] w (RetOwnI (dtx x compat t) w) := by
  subst hn
  obtain ⟨B0, c0, B1, c1, B2, c2, hv, hNW⟩ := usV_at hN k0 k1 k2
  have US := Lib.hid (fun W (hb : Below w.heap.size w W) => dUsable_eq A0 n0 k0 A1 n1 k1 A2 n2 k2 x W (hN.below hb) hz (hL.below hb))
  rw [hv] at US
  have HNW := Lib.hid hNW
  have hny := usN_ok x
  have hzu := hz.us
  have DF := Lib.hid (dcM_full hny.st hny.hg hny.en compat)
  have DL := Lib.hid (dcM_len hny.st hny.hg hny.en hny.lo compat)
  have EX := Lib.hid (fun (W : World) (hb : Below w.heap.size w W) => fun c l => expand_ok B0 (usN x).cls.length c0 B1 c1 B2 (usN x).exc.length c2 W.heap.size (usN x).dec compat W rfl (HNW.out W hb).s1 hny.st hny.co (by have := hzu.z1.1; omega) (c := c) (l := l))
  have SO := Lib.hid (fun (D : Option Addr) (m d : Nat) (l : List Int) (W : World) (hb : Below w.heap.size w W) (hD : Ints W D l) (hm : l.length = m) (hm2 : m ≤ 1048576) => Sort_own B0 (usN x).cls.length c0 (usN x).cls D m d l W (HNW.out W hb).s0 hD hm rfl hm2 (by have := hzu.z0; omega) (hL.below hb))
  have FT := Lib.hid (fun i (hi : i < t.length) => flM_take (usN x) compat hi)
  have FL := Lib.hid (fun i => flM_le hny compat t i)
  have HA := Lib.hid hA
  have HIO := Lib.hid hio
  have hul : unmarked (uM (usN x).dec) (mkF (fun _ => none)) ≤ 2000000 := by
    have h1 := unmarked_len (uM (usN x).dec) (mkF (fun _ => none))
    rw [uM_len] at h1
    have := hzu.z1.1
    omega
  unfold dtx
  clear hN hz hL hA hv hNW hny hzu hio
  generalize usN x = y at *
  have X0 : Box (w.alloc (.cells #[.slice A0 n0 k0, .slice A1 n1 k1, .slice A2 n2 k2] 28)) w.heap.size 28 [.slice A0 n0 k0, .slice A1 n1 k1, .slice A2 n2 k2] := Box.new w _ [.slice A0 n0 k0, .slice A1 n1 k1, .slice A2 n2 k2] rfl
  have H0 : Below w.heap.size w (w.alloc (.cells #[.slice A0 n0 k0, .slice A1 n1 k1, .slice A2 n2 k2] 28)) := (Below.refl _ _).alloc (Nat.le_refl _) _
  have W0E : ∃ W0, (w.alloc (.cells #[.slice A0 n0 k0, .slice A1 n1 k1, .slice A2 n2 k2] 28)) = W0 := ⟨_, rfl⟩
  go_enter Tryz.func121, Tryz.ntmps121
  go_wp2_with fail
  obtain ⟨W0, hW0⟩ := W0E
  try rw [hW0] at X0 H0 ⊢
  clear hW0
  have s0 := X0.lt
  have g0 := X0.cell (i := 0) rfl
  have g1 := X0.cell (i := 1) rfl
  have g2 := X0.cell (i := 2) rfl
  go_wp2_with fail
  with_reducible refine (US.out _ H0).mono ?_
  rintro e W1 ⟨rfl, hb1⟩
  have X1 := X0.below hb1 s0
  have H1 := H0.trans (hb1.mono H0.size)
  have f0 := X1.free 0
  have f1 := X1.free 1
  have f2 := X1.free 2
  have e0 := X1.cell (i := 0) rfl
  have e1 := X1.cell (i := 1) rfl
  have e2 := X1.cell (i := 2) rfl
  have X2 : Box (((W1.setCell ⟨w.heap.size, 0, none⟩ (.slice B0 y.cls.length c0)).setCell ⟨w.heap.size, 1, none⟩ (.slice B1 y.dec.length c1)).setCell ⟨w.heap.size, 2, none⟩ (.slice B2 y.exc.length c2)) w.heap.size 28 [.slice B0 y.cls.length c0, .slice B1 y.dec.length c1, .slice B2 y.exc.length c2] := ((X1.set 0 _).set 1 _).set 2 _
  have H2 : Below w.heap.size w (((W1.setCell ⟨w.heap.size, 0, none⟩ (.slice B0 y.cls.length c0)).setCell ⟨w.heap.size, 1, none⟩ (.slice B1 y.dec.length c1)).setCell ⟨w.heap.size, 2, none⟩ (.slice B2 y.exc.length c2)) := ((H1.setCell (by simp) _).setCell (by simp) _).setCell (by simp) _
  have W2E : ∃ W2, (((W1.setCell ⟨w.heap.size, 0, none⟩ (.slice B0 y.cls.length c0)).setCell ⟨w.heap.size, 1, none⟩ (.slice B1 y.dec.length c1)).setCell ⟨w.heap.size, 2, none⟩ (.slice B2 y.exc.length c2)) = W2 := ⟨_, rfl⟩
  clear US X0 H0 g0 g1 g2 s0 hb1
  go_wp2_with fail
  obtain ⟨W2, hW2⟩ := W2E
  try rw [hW2] at X2 H2 ⊢
  clear hW2 X1 H1 f0 f1 f2 e0 e1 e2
  have s2 := X2.lt
  have g0 := X2.cell (i := 0) rfl
  have g1 := X2.cell (i := 1) rfl
  have g2 := X2.cell (i := 2) rfl
  have EC := Lib.hid (expander_any B0 y.cls.length c0 B1 y.dec.length c1 B2 y.exc.length c2 y.dec compat W2)
  go_wp2_with fail
  with_reducible refine EC.out.mono ?_
  rintro e W5 ⟨rfl, hM5, hb5⟩
  have H5 := H2.trans (hb5.mono H2.size)
  have X5 := X2.below hb5 s2
  have EO := Lib.hid (EX.out W2 H2)
  have HM5 := Lib.hid hM5
  have hs5 : W2.heap.size + 4 < W5.heap.size := hM5.bX.lt
  have HB5 := Lib.hid hb5
  clear EC EX hM5 hb5 X2 g0 g1 g2
  generalize W2.heap.size = s at *
  go_wp2_with fail
  go_loopw [8, 18] (fun u q wr => ∃ (i n' : Nat) (f' : Int → Option Value) (B : Option Addr) (k : Nat), i ≤ t.length ∧ u = .slice B ((flM y compat (t.take i))).length k ∧ q = .int .i64 i ∧ XLoop B0 y.cls.length c0 B1 y.dec.length c1 B2 y.exc.length c2 y.dec compat s (fun _ => True) (flM y compat (t.take i)) W5 W5 0 (fun _ => none) B k wr n' f')
    (fun _ q _ => t.length - (intOf q).toNat)
  case atStart =>
    exact ⟨0, 0, _, none, 0, Nat.zero_le _, rfl, rfl, ⟨World.ownsRow_nil _ _ _ _, HM5.out, grownR_refl _ _, Nat.le_refl _, fun x E' m d e => .inl e, fun x e => .inl e, Apart.nil _⟩⟩
  case round =>
    obtain ⟨i, n', f', B, k', hile, rfl, rfl, HL0⟩ := hrel
    have HL := Lib.hid HL0
    have hbr : Below s W2 wr := HB5.out.trans (below_of_grown HL0.gr (by omega) (by omega))
    have hwr := H2.trans (hbr.mono (by omega : w.heap.size ≤ s))
    clear HL0
    have hfl := FL.out i
    by_cases hi : i < t.length
    · obtain ⟨b, o, rfl, hcell⟩ := (HA.out.below hwr).at hi
      have hc0 := hcell i hi
      clear hcell
      have hmem : t[i] ∈ t := List.getElem_mem hi
      have CL := Lib.hid (EO.out t[i] _ (DF.out t[i]) (HIO.out _ hmem) (by have := DL.out t[i]; omega) wr n' f' HL.out.st hbr (by have := HL.out.pot; omega))
      have NX := Lib.hid (fun (E2 : Option Addr) W n9 f9 (p : XRet B0 y.cls.length c0 B1 y.dec.length c1 B2 y.exc.length c2 y.dec compat s t[i] (dcM y.dec compat t[i]) wr n' f' E2 W n9 f9) => HL.out.call (Nat.le_refl _) hs5 (fun _ _ => trivial) p)
      have FSq := Lib.hid (FT.out i hi)
      have hdl := DL.out t[i]
      clear hmem
      generalize dcM y.dec compat t[i] = ve at *
      generalize t[i] = te at *
      generalize flM y compat (t.take i) = fl at *
      go_wp2_with fail
      with_reducible refine CL.out.mono ?_
      rintro e W ⟨E2, d2, n9, f9, rfl, hd2, hp⟩
      have HL2 := Lib.hid (NX.out E2 W n9 f9 hp)
      have HE2 := Lib.hid hp.ints
      clear hp CL NX HL hwr hbr
      go_wp2_with (at_builtin; refine wpList_app _ _ 49 3 (.int .i64 0) 1 8 rfl rfl Tryz.underlying49 info_int rfl (by decide) (by decide) rfl HL2.out.own rfl HE2.out (by simp) (oneCell_ints _) (by omega) HL2.out.lt ?_; intro B3 k3 w3 hown3 hc3 hb3 hg3 hB3)
      have HL3 := Lib.hid (HL2.out.app hs5 hown3 hb3 hg3 hB3)
      clear hown3 hb3 hg3 hB3 HL2 HE2
      go_wp2_with fail
      go_roundw
      case rel => exact ⟨i + 1, n9, f9, B3, k3, by omega, by rw [FSq.out, List.length_append], by go_num, by rw [FSq.out]; exact HL3.out⟩
      case measure => simp [intOf]; omega
    · have hi' : i = t.length := by omega
      subst hi'
      rw [List.take_length] at HL hfl ⊢
      have q0 : wr.cell? ⟨w.heap.size, 0, none⟩ = some (.slice B0 y.cls.length c0) := (HL.out.gr.cell (X5.cell (i := 0) rfl) (by simp; omega))
      have CS := Lib.hid (SO.out B _ k' _ wr hwr (Sl.of_own HL.out.own) rfl (by omega))
      generalize Can.srt (clz y.cls) (flM y compat t) = sr at *
      go_wp2_with fail
      with_reducible refine CS.out.mono ?_
      rintro e W ⟨E, d, rfl, ho, hb⟩
      have HO := Lib.hid ho
      clear CS ho
      go_wp2_with fail
      go_ret
      exact ⟨E, d, rfl, own_mono HO.out hwr.size, hwr.trans (hb.mono hwr.size)⟩
end Go.Proofs.YtpfbnikbebccjaaGreatDoor
/- The contract of colltable.made at any collation. -/
namespace Go.Proofs.YtpfbnikbebccjaaGreatDoor
open Go.RowKit Go.Maps Go.WideMaps

def colB : Col := ⟨[], [], 64448, 32, 2⟩
theorem colB_ok : colErr colB = 0 := by
  decide
theorem colD_good {c : Col} (h : colErr c = 0) : colD c = c := if_pos h
theorem colD_bad {c : Col} (h : ¬ colErr c = 0) : colD c = colB := if_neg h
theorem colD_ok (c : Col) : colErr (colD c) = 0 := by
  by_cases h : colErr c = 0
  · rw [colD_good h]; exact h
  · rw [colD_bad h]; exact colB_ok

set_option maxRecDepth 100000 in
set_option maxHeartbeats 6400000 in
theorem made_bad (A : Option Addr) (n a : Nat) (B : Option Addr) (m b : Nat) (c : Col) (w : World) (h : ColAt w A n B m c) (hz : ColSz c) (he : ¬ colErr c = 0) :
    Calls Tryz.prog 145 #[colV A n a B m b c] w (RetTab colB w) := by
  have B0 : Below w.heap.size w (w.alloc (.cells #[.slice A n a, .slice B m b, .int .i64 c.base, .int .i64 c.second, .int .i64 c.third] 32)) := (Below.refl _ _).alloc (Nat.le_refl _) _
  have X0 : Box (w.alloc (.cells #[.slice A n a, .slice B m b, .int .i64 c.base, .int .i64 c.second, .int .i64 c.third] 32)) w.heap.size 32 [.slice A n a, .slice B m b, .int .i64 c.base, .int .i64 c.second, .int .i64 c.third] := Box.new w 32 [.slice A n a, .slice B m b, .int .i64 c.base, .int .i64 c.second, .int .i64 c.third] rfl
  have W0E : ∃ W0, w.alloc (.cells #[.slice A n a, .slice B m b, .int .i64 c.base, .int .i64 c.second, .int .i64 c.third] 32) = W0 := ⟨_, rfl⟩
  have CK := Lib.hid (fun W (hb : Below w.heap.size w W) => ckColl_any A n a B m b c W (h.below hb) hz)
  have hmm := @run_makeMap Tryz.prog
  clear h hz
  generalize colErr c = er at *
  have q : (er != 0) = true := by simpa using he
  clear he
  unfold colV at *
  generalize c.base = u2 at *
  generalize c.second = u3 at *
  generalize c.third = u4 at *
  clear c
  go_enter Tryz.func145, Tryz.ntmps145
  go_wp2_with fail
  obtain ⟨W0, hW0⟩ := W0E
  rw [hW0] at B0 X0 ⊢
  clear hW0
  have k0 := X0.cell (i := 0) rfl
  have k1 := X0.cell (i := 1) rfl
  have k2 := X0.cell (i := 2) rfl
  have k3 := X0.cell (i := 3) rfl
  have k4 := X0.cell (i := 4) rfl
  have hx0 := X0.lt
  go_wp2_with fail
  with_reducible refine (CK.out W0 B0).mono ?_
  rintro e W1 ⟨rfl, hb1⟩
  clear CK k0 k1 k2 k3 k4
  have hb2 := B0.trans (hb1.mono B0.size)
  have X1 := X0.below hb1 hx0
  have f0 := X1.free 0
  have f1 := X1.free 1
  have f2 := X1.free 2
  have f3 := X1.free 3
  have f4 := X1.free 4
  have e0 := X1.cell (i := 0) rfl
  have e1 := X1.cell (i := 1) rfl
  have e2 := X1.cell (i := 2) rfl
  have e3 := X1.cell (i := 3) rfl
  have e4 := X1.cell (i := 4) rfl
  have X5 : Box (((((W1.setCell ⟨w.heap.size, 0, none⟩ (.slice none 0 0)).setCell ⟨w.heap.size, 1, none⟩ (.slice none 0 0)).setCell ⟨w.heap.size, 2, none⟩ (.int .i64 64448)).setCell ⟨w.heap.size, 3, none⟩ (.int .i64 32)).setCell ⟨w.heap.size, 4, none⟩ (.int .i64 2)) w.heap.size 32 [.slice none 0 0, .slice none 0 0, .int .i64 64448, .int .i64 32, .int .i64 2] := ((((X1.set 0 _).set 1 _).set 2 _).set 3 _).set 4 _
  have B5 : Below w.heap.size w (((((W1.setCell ⟨w.heap.size, 0, none⟩ (.slice none 0 0)).setCell ⟨w.heap.size, 1, none⟩ (.slice none 0 0)).setCell ⟨w.heap.size, 2, none⟩ (.int .i64 64448)).setCell ⟨w.heap.size, 3, none⟩ (.int .i64 32)).setCell ⟨w.heap.size, 4, none⟩ (.int .i64 2)) := ((((hb2.setCell (by simp) _).setCell (by simp) _).setCell (by simp) _).setCell (by simp) _).setCell (by simp) _
  have W5E : ∃ W5, (((((W1.setCell ⟨w.heap.size, 0, none⟩ (.slice none 0 0)).setCell ⟨w.heap.size, 1, none⟩ (.slice none 0 0)).setCell ⟨w.heap.size, 2, none⟩ (.int .i64 64448)).setCell ⟨w.heap.size, 3, none⟩ (.int .i64 32)).setCell ⟨w.heap.size, 4, none⟩ (.int .i64 2)) = W5 := ⟨_, rfl⟩
  go_upto_region 3 with (fail)
  obtain ⟨W5, hW5⟩ := W5E
  rw [hW5] at B5 X5 ⊢
  clear hW5 f0 f1 f2 f3 f4 e0 e1 e2 e3 e4 X1
  have k0 := X5.cell (i := 0) rfl
  have k1 := X5.cell (i := 1) rfl
  have k2 := X5.cell (i := 2) rfl
  have k3 := X5.cell (i := 3) rfl
  have k4 := X5.cell (i := 4) rfl
  have hx5 := X5.lt
  have hx6 : ¬ w.heap.size = W5.heap.size := by omega
  have hx7 : ¬ w.heap.size = W5.heap.size + 1 := by omega
  have B2 : Below W5.heap.size W5 ((W5.alloc (.map #[] 0)).alloc (.cells #[.slice none 0 0, .slice none 0 0, .int .i64 64448, .int .i64 32, .int .i64 2, .map (some W5.heap.size), .int .i64 0, .slice none 0 0, .int .i64 0] 213)) := ((Below.refl _ _).alloc (Nat.le_refl _) _).alloc (by simp) _
  have X2 : Box ((W5.alloc (.map #[] 0)).alloc (.cells #[.slice none 0 0, .slice none 0 0, .int .i64 64448, .int .i64 32, .int .i64 2, .map (some W5.heap.size), .int .i64 0, .slice none 0 0, .int .i64 0] 213)) (W5.heap.size + 1) 213 (tabCells none 0 0 none 0 0 colB W5.heap.size (longE colB.ents) (.slice none 0 0) 0) := Box.new _ _ _ (by simp)
  have M2 : MapIs Tryz.prog 215 klit kok ((W5.alloc (.map #[] 0)).alloc (.cells #[.slice none 0 0, .slice none 0 0, .int .i64 64448, .int .i64 32, .int .i64 2, .map (some W5.heap.size), .int .i64 0, .slice none 0 0, .int .i64 0] 213)) W5.heap.size 0 (fun _ => none) := (MapIs.made Tryz.prog _ klit kok W5).alloc _
  have W2E : ∃ W2, ((W5.alloc (.map #[] 0)).alloc (.cells #[.slice none 0 0, .slice none 0 0, .int .i64 64448, .int .i64 32, .int .i64 2, .map (some W5.heap.size), .int .i64 0, .slice none 0 0, .int .i64 0] 213)) = W2 := ⟨_, rfl⟩
  have hsz := B5.size
  go_wp2_with fail
  obtain ⟨W2, hW2⟩ := W2E
  rw [hW2] at B2 X2 M2 ⊢
  clear hW2 k0 k1 k2 k3 k4 hmm
  have HX2 := Lib.hid X2
  have HM2 := Lib.hid M2
  clear X2 M2
  go_loopw [17] (fun u wr => u = .int .i64 0 ∧ wr = W2) (fun u _ => 0 - (intOf u).toNat)
  case atStart => exact ⟨rfl, rfl⟩
  case round =>
    obtain ⟨rfl, rfl⟩ := hrel
    go_wp2_with fail
    go_ret
    exact ⟨_, rfl, by omega, ⟨_, _, _, _, _, _, _, _, _, HX2.out, HM2.out, TabF.nil _⟩, B5.trans (B2.mono hsz)⟩

theorem made_any (A : Option Addr) (n a : Nat) (B : Option Addr) (m b : Nat) (c : Col) (w : World) (h : ColAt w A n B m c) (hz : ColSz c) :
    Calls Tryz.prog 145 #[colV A n a B m b c] w (RetTab (colD c) w) := by
  by_cases he : colErr c = 0
  · rw [colD_good he]; exact made_ok A n a B m b c w h hz he
  · rw [colD_bad he]; exact made_bad A n a B m b c w h hz he
end Go.Proofs.YtpfbnikbebccjaaGreatDoor
/- The decomposed text: its numbers may be keys, its length. Plain. -/
namespace Go.Proofs.YtpfbnikbebccjaaGreatDoor
open Go.RowKit

theorem dtx_iok {x : Nrm} (compat : Bool) {t : List Int} (h : ∀ z ∈ t, iok z) : ∀ z ∈ dtx x compat t, iok z := fun z hz => ((fl_facts (usN_ok x) compat h).1 z hz).1
theorem dtx_len (x : Nrm) (compat : Bool) (t : List Int) : (dtx x compat t).length ≤ 64 * t.length := by
  unfold dtx
  rw [Can.srt_len]
  exact flM_len (usN_ok x) compat t
theorem usN_asc (x : Nrm) : Asc (usN x).cls := by
  unfold usN
  split
  · next h => exact asc_of_ok (nErr_ck6 h).1.c
  · exact fun i j _ hj => by simp at hj
end Go.Proofs.YtpfbnikbebccjaaGreatDoor
/- The contracts of the reference's Data, find and Find, for a valid collation. Written by gen_reffind.py. -/
namespace Go.Proofs.YtpfbnikbebccjaaGreatDoor
open Go.RowKit Go.Maps Go.WideMaps

end Go.Proofs.YtpfbnikbebccjaaGreatDoor
/- A valid collation has at most one entry for codes; its groups are apart. Plain. -/
namespace Go.Proofs.YtpfbnikbebccjaaGreatDoor
open Go.RowKit

theorem col_grps {c : Col} (h : colErr c = 0) : grpErr c.base c.grps = 0 ∧ 1 ≤ c.base ∧ c.base ≤ 65502 ∧ (1 ≤ c.second ∧ c.second ≤ 65535) ∧ (1 ≤ c.third ∧ c.third ≤ 65535) := by
  unfold colErr at h
  split at h
  · cases h
  · next h0 =>
    split at h
    · next h1 => exact absurd h h1
    · next h1 =>
      have h2 : inR 1 65535 c.second = true := by cases hh : inR 1 65535 c.second <;> simp_all
      have h3 : inR 1 65535 c.third = true := by cases hh : inR 1 65535 c.third <;> simp_all
      exact ⟨by simpa using h1, by omega, by omega, inR_iff.1 h2, inR_iff.1 h3⟩
end Go.Proofs.YtpfbnikbebccjaaGreatDoor
/- The parts of a text, one by one; two lists of entries that agree give the same parts. Plain. -/
namespace Go.Proofs.YtpfbnikbebccjaaGreatDoor.Mtc
open Go.RowKit

section
variable {E : Type} {cl : Int → Int} {ent : List Int → Option (List E)} {imp : Int → List E}
def partsF (cl : Int → Int) (ent : List Int → Option (List E)) : Nat → List Int → List (List Int × Bool)
  | 0, _ => []
  | _ + 1, [] => []
  | f + 1, x :: t => ((matched cl ent (x :: t)).1, (matched cl ent (x :: t)).2.2) :: partsF cl ent f (matched cl ent (x :: t)).2.1
theorem partsF_more : ∀ (f g : Nat) (t : List Int), t.length ≤ f → t.length ≤ g → partsF cl ent f t = partsF cl ent g t
  | 0, 0, t, _, _ => rfl
  | 0, g + 1, t, h, _ => by
    obtain rfl : t = [] := List.length_eq_zero_iff.1 (by omega)
    rfl
  | f + 1, 0, t, _, h => by
    obtain rfl : t = [] := List.length_eq_zero_iff.1 (by omega)
    rfl
  | f + 1, g + 1, [], _, _ => rfl
  | f + 1, g + 1, x :: t, h1, h2 => by
    have h := (matched_len (cl := cl) (ent := ent) (t := x :: t) (by simp)).1
    unfold partsF
    rw [partsF_more f g _ (by omega) (by omega)]
/-- the parts of a text: what each is, whether it is an entry -/
def parts (cl : Int → Int) (ent : List Int → Option (List E)) (t : List Int) : List (List Int × Bool) := partsF cl ent t.length t
theorem parts_step {t : List Int} (h : t ≠ []) : parts cl ent t = ((matched cl ent t).1, (matched cl ent t).2.2) :: parts cl ent (matched cl ent t).2.1 := by
  cases t with
  | nil => exact absurd rfl h
  | cons x t =>
    have hl := (matched_len (cl := cl) (ent := ent) (t := x :: t) (by simp)).1
    show ((matched cl ent (x :: t)).1, (matched cl ent (x :: t)).2.2) :: partsF cl ent t.length (matched cl ent (x :: t)).2.1 = _
    rw [partsF_more (cl := cl) (ent := ent) t.length (matched cl ent (x :: t)).2.1.length (matched cl ent (x :: t)).2.1 (by simp at hl; omega) (Nat.le_refl _)]
    rfl
/-- a proof over the parts of a text -/
theorem parts_ind {P : List Int → Prop} (cl : Int → Int) (ent : List Int → Option (List E)) (h0 : P []) (h1 : ∀ t, t ≠ [] → P (matched cl ent t).2.1 → P t) (t : List Int) : P t := by
  have key : ∀ (n : Nat) (t : List Int), t.length ≤ n → P t := by
    intro n
    induction n with
    | zero => intro t h; obtain rfl : t = [] := List.length_eq_zero_iff.1 (by omega); exact h0
    | succ n ih =>
      intro t h
      by_cases ht : t = []
      · rw [ht]; exact h0
      · have := (matched_len (cl := cl) (ent := ent) ht).1
        exact h1 t ht (ih _ (by omega))
  exact key t.length t (Nat.le_refl _)
/-- whether all parts are entries -/
def known (cl : Int → Int) (ent : List Int → Option (List E)) (t : List Int) : Bool := (parts cl ent t).all (fun p => p.2)
theorem known_step {t : List Int} (h : t ≠ []) : known cl ent t = ((matched cl ent t).2.2 && known cl ent (matched cl ent t).2.1) := by
  unfold known
  rw [parts_step h, List.all_cons]

/-- what is left are elements of the text -/
theorem grow_mem : ∀ (r part left : List Int) (hi : Int) (x : Int), x ∈ (grow cl ent part left hi r).1 ++ (grow cl ent part left hi r).2 ↔ x ∈ part ++ left ++ r
  | [], part, left, hi, x => by simp [grow]
  | y :: r, part, left, hi, x => by
    unfold grow
    split
    · simp
    · split
      · rw [grow_mem r]; simp only [List.mem_append, List.mem_cons, List.not_mem_nil, or_false]
        constructor
        · rintro (((h | h) | h) | h) <;> simp [h]
        · rintro ((h | h) | h | h) <;> simp [h]
      · rw [grow_mem r]; simp only [List.mem_append, List.mem_cons, List.not_mem_nil, or_false]
        constructor
        · rintro ((h | h | h) | h) <;> simp [h]
        · rintro ((h | h) | h | h) <;> simp [h]
theorem matched_mem {t : List Int} (x : Int) : x ∈ (matched cl ent t).1 ++ (matched cl ent t).2.1 ↔ x ∈ t := by
  unfold matched
  split
  · rw [List.take_append_drop]
  · rw [grow_mem, List.append_nil, List.take_append_drop]
/-! two lists of entries -/
variable {F : Type} {ent' : List Int → Option (List F)}
end
end Go.Proofs.YtpfbnikbebccjaaGreatDoor.Mtc
