/- Texts that are merged into one file: SkWgt, Search, RefColl, Key. -/
import Derived.Test.YtpfbnikbebccjaaGreatDoorG01
import Derived.Test.YtpfbnikbebccjaaGreatDoorG09
import Derived.Test.YtpfbnikbebccjaaGreatDoorG15
import Derived.Test.YtpfbnikbebccjaaGreatDoorG16
import Derived.Deep.Cut
import Derived.Test.YtpfbnikbebccjaaGreatDoorProg
import Derived.Shelf.Abstract
import Derived.Laws.IdiomCopy
/- The contract of sortkey.Weights. Written by gen_skwgt.py. -/
namespace Go.Proofs.YtpfbnikbebccjaaGreatDoor
open Go.RowKit Go.Maps Go.WideMaps

theorem info_ints : (Tryz.prog.info? 49).map (fun i => (i.zero, i.size, i.bytes)) = some (some (.slice none 0 0), 1, 24) := by kernel_rfl
theorem Box.slT {w : World} {b : Nat} {t : TypeId} {cs : List Value} (h : Box w b t cs) (k : Nat) : Sl w (some ⟨b, 0, none⟩) (cs.take k) := fun _ => ⟨b, 0, rfl, fun j u hu => by
  rw [Nat.zero_add]
  refine h.cell ?_
  rw [List.getElem?_take] at hu
  split at hu
  · exact hu
  · cases hu⟩
theorem idx4 (x y z u : Value) (W : World) : (Instr.index 173 (.agg #[x, y, z, u]) (.int .i64 0)).run Tryz.prog W = .ok x W ∧ (Instr.index 173 (.agg #[x, y, z, u]) (.int .i64 1)).run Tryz.prog W = .ok y W ∧ (Instr.index 173 (.agg #[x, y, z, u]) (.int .i64 2)).run Tryz.prog W = .ok z W ∧ (Instr.index 173 (.agg #[x, y, z, u]) (.int .i64 3)).run Tryz.prog W = .ok u W := ⟨by kernel_rfl, by kernel_rfl, by kernel_rfl, by kernel_rfl⟩
theorem mixR_self (r r' : Nat → List Int) (j : Nat) : mixR r r' j j = r j := if_neg (by omega)
/-- a weight is appended to a row, and the row put back -/
theorem wround {wr w3 : World} {base L jj : Nat} {A : Nat → Option Addr} {C : Nat → Nat} {rr : Nat → List Int} {u : Int} {B3 : Option Addr} {k3 : Nat} {T : TypeId} {o : Obj} (hR : R4 wr base A C rr) (hX : Box wr L T (lcs A C rr)) (hL : L < base) (hj : jj < 4)
    (hown3 : w3.ownsRow base 3 1 (.slice B3 ((rr jj).length + 1) k3) ((rr jj).length + 1) ((rr jj).map (Value.int .i64) ++ [.int .i64 u])) (hg : (wr.alloc o).grownBy w3 (Value.ownBlock (.slice (A jj) (rr jj).length (C jj)))) (hb : Below base (wr.alloc o) w3) (hB : B3 = A jj ∨ B3 = some ⟨(wr.alloc o).heap.size, 0, none⟩) :
    R4 (w3.setCell ⟨L, jj, none⟩ (.slice B3 ((rr jj).length + 1) k3)) base (upd A jj B3) (upd C jj k3) (upd rr jj (rr jj ++ [u])) ∧ Box (w3.setCell ⟨L, jj, none⟩ (.slice B3 ((rr jj).length + 1) k3)) L T (lcs (upd A jj B3) (upd C jj k3) (upd rr jj (rr jj ++ [u]))) := by
  have hal : Below wr.heap.size wr (wr.alloc o) := (Below.refl _ _).alloc (Nat.le_refl _) _
  have el : (rr jj ++ [u]).length = (rr jj).length + 1 := by simp
  refine ⟨R4.keep (R4.put (hR.below hal) hj (zs := rr jj ++ [u]) (by rw [el, List.map_append]; exact hown3) (by rw [← ownBlock_blk (A jj) (rr jj).length (C jj)]; exact hg) hB) (grown_set _ _ _) hL, ?_⟩
  rw [← lcs_put A C rr hj B3 k3 (rr jj ++ [u]), el]
  exact ((hX.below hal hX.lt).below hb hL).set jj _
theorem WghAt.low {w w' : World} {s base : Nat} {va : Int} {a : Bool} (h : WghAt w s va a) (hb : Below base w w') (hs : s + 1 < base) : WghAt w' s va a := ⟨h.b0.below hb (by omega), h.b1.below hb hs⟩
theorem WghAt.set {w : World} {s : Nat} {va : Int} {a : Bool} (h : WghAt w s va a) (p : Addr) (hp : p.block < s) (v : Value) : WghAt (w.setCell p v) s va a := ⟨bx_ne h.b0 p (by omega) v, bx_ne h.b1 p (by omega) v⟩
theorem wt_af {va : Int} {a : Bool} {x : Elt} {k : Nat} : wtE va (aftE (if va = 1 then false else a) x) x k = wtE va (aftE a x) x k := by
  by_cases h : va = 1
  · subst h; rw [wtE_n, wtE_n]
  · rw [if_neg h]
def afN (va : Int) (l : List Elt) : Bool := if va = 1 then false else aftL false l
def rwN (va : Int) (l : List Elt) : Nat → List Int := rowK (wtsL va false l)
theorem rwN_next {va : Int} {es : List Elt} {i : Nat} (hi : i < es.length) (k : Nat) : rwN va (es.take (i + 1)) k = rwN va (es.take i) k ++ if wtE va (aftE (afN va (es.take i)) es[i]) es[i] k = 0 then [] else [wtE va (aftE (afN va (es.take i)) es[i]) es[i] k] := by
  unfold rwN afN
  rw [wtsL_take va hi, rowK_snoc, wt_af]
theorem afN_next {va : Int} {es : List Elt} {i : Nat} (hi : i < es.length) : (if va = 1 then afN va (es.take i) else aftE (afN va (es.take i)) es[i]) = afN va (es.take (i + 1)) := by
  unfold afN
  rw [aftL_take hi]
  by_cases h : va = 1
  · simp [h]
  · simp [h]
theorem rwN_len (va : Int) (es : List Elt) (i k : Nat) : (rwN va (es.take i) k).length ≤ es.length := by
  unfold rwN
  refine Nat.le_trans (rowK_len _ _) ?_
  rw [wtsL_len, List.length_take]
  omega
def RetWgt (rows : List (List Int)) (w : World) (e : Ending) (w' : World) : Prop := ∃ B d, e = .returned (.slice B rows.length d) ∧ RowsAt w' B rows ∧ Below w.heap.size w w'
theorem wgtL_rows {o : Opt} {es : List Elt} {n : Nat} {R : Nat → List Int} (hn : o.st = n) (hR : ∀ k, k < 4 → R k = lvlK o es k) (hn4 : n ≤ 4) : (List.range n).map R = wgtL o es := by
  unfold wgtL
  rw [hn, Int.toNat_natCast]
  refine List.map_congr_left fun k hk => hR k ?_
  have := List.mem_range.1 hk
  omega

set_option maxRecDepth 100000 in
set_option maxHeartbeats 12800000 in
theorem weights_any (E : Option Addr) (n kE : Nat) (es : List Elt) (o : Opt) (w : World) (hE : Elts w E es) (hn : es.length = n) (hbig : n ≤ 33554432) :
    Calls Tryz.prog 119 #[.slice E n kE, .agg #[.int .i64 o.st, .int .i64 o.va, .bool o.bk, .bool o.idn]] w (RetWgt (wgtL (optD o) es) w) := by
  subst hn
  have EF := Lib.hid (fun W => effective_any o W)
  obtain ⟨⟨hst1, hst4⟩, hva1, hva3⟩ := optD_bd o
  generalize optD o = od at *
  have WL := Lib.hid (fun (n : Nat) R => wgtL_rows (o := od) (es := es) (n := n) (R := R))
  have LK := Lib.hid (fun k => show lvlK od es k = if k = 1 ∧ od.bk = true then (rwN od.va es k).reverse else rwN od.va es k from rfl)
  obtain ⟨st0, va0, bk0, idn0⟩ := o
  generalize wgtL od es = wl at *
  generalize hlv : lvlK od es = lv at *
  clear hlv
  obtain ⟨st, va, bk, idn⟩ := od
  dsimp only at *
  have hva : va = 1 ∨ va = 2 ∨ va = 3 := by omega
  have HVA := Lib.hid hva
  clear hva hva1 hva3
  have HE := Lib.hid hE
  have SN := Lib.hid (fun i (hi : i < es.length) k => rwN_next (va := va) hi k)
  have AN := Lib.hid (fun i (hi : i < es.length) => afN_next (va := va) hi)
  have RL := Lib.hid (rwN_len va es)
  clear hE
  have B0 : Below w.heap.size w (w.alloc (.cells #[.int .i64 st0, .int .i64 va0, .bool bk0, .bool idn0] 34)) := (Below.refl _ _).alloc (Nat.le_refl _) _
  have X0 : Box (w.alloc (.cells #[.int .i64 st0, .int .i64 va0, .bool bk0, .bool idn0] 34)) w.heap.size 34 [.int .i64 st0, .int .i64 va0, .bool bk0, .bool idn0] := Box.new w 34 [.int .i64 st0, .int .i64 va0, .bool bk0, .bool idn0] rfl
  have W0E : ∃ W0, (w.alloc (.cells #[.int .i64 st0, .int .i64 va0, .bool bk0, .bool idn0] 34)) = W0 := ⟨_, rfl⟩
  go_enter Tryz.func119, Tryz.ntmps119
  go_wp2_with fail
  obtain ⟨W0, hW0⟩ := W0E
  try rw [hW0] at B0 X0 ⊢
  clear hW0
  have c0 := X0.cell (i := 0) rfl
  have c1 := X0.cell (i := 1) rfl
  have c2 := X0.cell (i := 2) rfl
  have c3 := X0.cell (i := 3) rfl
  have l0 := X0.lt
  go_wp2_with fail
  with_reducible refine (EF.out _).mono ?_
  rintro e W1 ⟨rfl, hb1⟩
  have B1 := B0.trans (hb1.mono B0.size)
  have X1 := X0.below hb1 l0
  clear c0 c1 c2 c3 EF X0 hb1 B0
  have f0 := X1.free 0
  have f1 := X1.free 1
  have f2 := X1.free 2
  have f3 := X1.free 3
  have e0 := X1.cell (i := 0) rfl
  have e1 := X1.cell (i := 1) rfl
  have e2 := X1.cell (i := 2) rfl
  have e3 := X1.cell (i := 3) rfl
  have X5 : Box ((((W1.setCell ⟨w.heap.size, 0, none⟩ (.int .i64 st)).setCell ⟨w.heap.size, 1, none⟩ (.int .i64 va)).setCell ⟨w.heap.size, 2, none⟩ (.bool bk)).setCell ⟨w.heap.size, 3, none⟩ (.bool idn)) w.heap.size 34 [.int .i64 st, .int .i64 va, .bool bk, .bool idn] := (((X1.set 0 _).set 1 _).set 2 _).set 3 _
  have B5 : Below w.heap.size w ((((W1.setCell ⟨w.heap.size, 0, none⟩ (.int .i64 st)).setCell ⟨w.heap.size, 1, none⟩ (.int .i64 va)).setCell ⟨w.heap.size, 2, none⟩ (.bool bk)).setCell ⟨w.heap.size, 3, none⟩ (.bool idn)) := (((B1.setCell (by simp) _).setCell (by simp) _).setCell (by simp) _).setCell (by simp) _
  have W5E : ∃ W5, ((((W1.setCell ⟨w.heap.size, 0, none⟩ (.int .i64 st)).setCell ⟨w.heap.size, 1, none⟩ (.int .i64 va)).setCell ⟨w.heap.size, 2, none⟩ (.bool bk)).setCell ⟨w.heap.size, 3, none⟩ (.bool idn)) = W5 := ⟨_, rfl⟩
  go_upto_region 2 with (fail)
  obtain ⟨W5, hW5⟩ := W5E
  try rw [hW5] at B5 X5 ⊢
  clear hW5 f0 f1 f2 f3 e0 e1 e2 e3 X1 B1
  have k0 := X5.cell (i := 0) rfl
  have k1 := X5.cell (i := 1) rfl
  have k2 := X5.cell (i := 2) rfl
  have l5 := X5.lt
  have LB : Below W5.heap.size W5 (W5.alloc (.cells #[.slice none 0 0, .slice none 0 0, .slice none 0 0, .slice none 0 0] 187)) := (Below.refl _ _).alloc (Nat.le_refl _) _
  have LX : Box (W5.alloc (.cells #[.slice none 0 0, .slice none 0 0, .slice none 0 0, .slice none 0 0] 187)) W5.heap.size 187 (lcs (fun _ => none) (fun _ => 0) (fun _ => [])) := Box.new W5 187 [.slice none 0 0, .slice none 0 0, .slice none 0 0, .slice none 0 0] rfl
  have W6E : ∃ W6, (W5.alloc (.cells #[.slice none 0 0, .slice none 0 0, .slice none 0 0, .slice none 0 0] 187)) = W6 := ⟨_, rfl⟩
  go_upto_region 3 with (fail)
  obtain ⟨W6, hW6⟩ := W6E
  try rw [hW6] at LB LX ⊢
  clear hW6 k0 k1 k2
  have q1 := (LB.cell (p := ⟨w.heap.size, 1, none⟩) l5).trans (X5.cell (i := 1) rfl)
  have TC := Lib.hid (treatment_any va W6)
  unfold RetTreat wghV at TC
  have s6 : W5.heap.size < W6.heap.size := LX.lt
  have HE5 := Lib.hid (HE.out.below B5)
  go_wp2_with fail
  with_reducible refine TC.out.mono ?_
  rintro e W7 ⟨rfl, hwg, hb7⟩
  have B7 : Below W5.heap.size W5 W7 := LB.trans (hb7.mono LB.size)
  have s7 : W6.heap.size + 1 < W7.heap.size := hwg.b1.lt
  have LX7 := LX.below hb7 s6
  have HF := Lib.hid (show R4 W7 W7.heap.size (fun _ => none) (fun _ => 0) (rwN va (es.take 0)) ∧ Box W7 W5.heap.size 187 (lcs (fun _ => none) (fun _ => 0) (rwN va (es.take 0))) ∧ WghAt W7 W6.heap.size va (afN va (es.take 0)) ∧ Below W5.heap.size W5 W7 from by
    have e1 : rwN va (es.take 0) = fun _ => [] := by funext k; rfl
    have e2 : afN va (es.take 0) = false := by unfold afN; split <;> rfl
    rw [e1, e2]
    exact ⟨R4.nil _ _, LX7, hwg, B7⟩)
  have HX5 := Lib.hid X5
  have HB5 := Lib.hid B5
  clear TC q1 hwg hb7 LX LX7 LB X5 B7 B5
  go_wp2_with fail
  go_loopw [18] (fun u wr => ∃ (i : Nat) (A : Nat → Option Addr) (C : Nat → Nat), i ≤ es.length ∧ u = .int .i64 i ∧ R4 wr W7.heap.size A C (rwN va (es.take i)) ∧ Box wr W5.heap.size 187 (lcs A C (rwN va (es.take i))) ∧ WghAt wr W6.heap.size va (afN va (es.take i)) ∧ W7.heap.size ≤ wr.heap.size ∧ Below W5.heap.size W5 wr) (fun u _ => es.length - (intOf u).toNat)
  case atStart => exact ⟨0, _, _, Nat.zero_le _, rfl, HF.out.1, HF.out.2.1, HF.out.2.2.1, Nat.le_refl _, HF.out.2.2.2⟩
  case round =>
    obtain ⟨i, A, C, hi, rfl, hR, hX, hW, hsz, hbr⟩ := hrel
    have HR := Lib.hid hR; have HX := Lib.hid hX; have HW := Lib.hid hW; have HBR := Lib.hid hbr
    have hrs := hbr.size
    clear hR hX hW HF
    by_cases hlt : i < es.length
    · obtain ⟨b, o, rfl, hbl, hcell⟩ := (HE5.out.below hbr).at hlt
      obtain ⟨g0, g1, g2, g3⟩ := hcell i hlt
      have SNi := Lib.hid (SN.out i hlt)
      have ANi := Lib.hid (AN.out i hlt)
      clear hcell
      have RLi := Lib.hid (RL.out i)
      generalize hr1 : rwN va (es.take (i + 1)) = r' at *
      generalize ha1 : afN va (es.take (i + 1)) = a' at *
      have HR1 := Lib.hid hr1
      have HA1 := Lib.hid ha1
      clear hr1 ha1
      generalize rwN va (es.take i) = r at *
      generalize afN va (es.take i) = af at *
      generalize es[i] = x at *
      have hne : ¬ b = wr.heap.size := by omega
      have BA : Below wr.heap.size wr (wr.alloc (.cells #[.int .i64 x.p, .int .i64 x.s, .int .i64 x.t, .bool x.v] 106)) := (Below.refl _ _).alloc (Nat.le_refl _) _
      have XA : Box (wr.alloc (.cells #[.int .i64 x.p, .int .i64 x.s, .int .i64 x.t, .bool x.v] 106)) wr.heap.size 106 [.int .i64 x.p, .int .i64 x.s, .int .i64 x.t, .bool x.v] := Box.new wr 106 [.int .i64 x.p, .int .i64 x.s, .int .i64 x.t, .bool x.v] rfl
      have WaE : ∃ Wa, (wr.alloc (.cells #[.int .i64 x.p, .int .i64 x.s, .int .i64 x.t, .bool x.v] 106)) = Wa := ⟨_, rfl⟩
      go_upto_region 7 with (fail)
      obtain ⟨Wa, hWa⟩ := WaE
      try rw [hWa] at BA XA ⊢
      clear hWa g0 g1 g2 g3 hne
      have x0 := XA.cell (i := 0) rfl
      have x1 := XA.cell (i := 1) rfl
      have x2 := XA.cell (i := 2) rfl
      have x3 := XA.cell (i := 3) rfl
      have HWa := Lib.hid (HW.out.below BA)
      have TR := Lib.hid (treat1_any x va af W6.heap.size (W6.heap.size + 1) Wa HWa.out.b0 HWa.out.b1 HVA.out)
      have has := BA.size
      go_wp2_with fail
      with_reducible refine TR.out.mono ?_
      rintro e W8 ⟨rfl, hx8, hg8⟩
      have hw8 : WghAt W8 W6.heap.size va a' := ⟨HWa.out.b0.grown hg8 (by intro e; injection e with e; omega), by rw [← ANi.out]; exact hx8⟩
      have HL8 := Lib.hid (show R4 W8 W7.heap.size A C (mixR r r' 0) ∧ Box W8 W5.heap.size 187 (lcs A C (mixR r r' 0)) ∧ WghAt W8 W6.heap.size va a' ∧ W7.heap.size ≤ W8.heap.size ∧ Below W5.heap.size W5 W8 from by
        rw [mixR_zero]
        exact ⟨(HR.out.below BA).keep hg8 s7, (HX.out.below BA HX.out.lt).grown hg8 (by intro e; injection e with e; omega), hw8, by have := hg8.size; omega, HBR.out.trans ((BA.mono hrs).trans (below_of_grown hg8 (by omega) (by omega)))⟩)
      clear x0 x1 x2 x3 TR XA hx8 hg8 hw8 HWa HR HX HW HBR hbr hrs has BA
      have S0 := Lib.hid (SNi.out 0); have S1 := Lib.hid (SNi.out 1); have S2 := Lib.hid (SNi.out 2); have S3 := Lib.hid (SNi.out 3)
      clear SNi ANi
      generalize wtE va (aftE af x) x 0 = u0 at *
      generalize wtE va (aftE af x) x 1 = u1 at *
      generalize wtE va (aftE af x) x 2 = u2 at *
      generalize wtE va (aftE af x) x 3 = u3 at *
      go_wp2_with fail
      go_loopw [25] (fun u wr => ∃ (q : Int) (j : Nat) (A : Nat → Option Addr) (C : Nat → Nat), j ≤ 4 ∧ q = j ∧ u = .int .i64 q ∧ R4 wr W7.heap.size A C (mixR r r' j) ∧ Box wr W5.heap.size 187 (lcs A C (mixR r r' j)) ∧ WghAt wr W6.heap.size va a' ∧ W7.heap.size ≤ wr.heap.size ∧ Below W5.heap.size W5 wr) (fun u _ => 4 - (intOf u).toNat)
      case atStart => exact ⟨0, 0, A, C, by omega, rfl, rfl, HL8.out⟩
      case round =>
        obtain ⟨q, j, A, C, hj, hq, rfl, hR, hX, hW, hsz, hbr⟩ := hrel
        have HR := Lib.hid hR; have HX := Lib.hid hX; have HW := Lib.hid hW; have HBR := Lib.hid hbr
        have hrs := hbr.size
        clear hR hX hW HL8 hbr
        have hj5 : j = 0 ∨ j = 1 ∨ j = 2 ∨ j = 3 ∨ j = 4 := by omega
        clear hj
        rcases hj5 with rfl | rfl | rfl | rfl | rfl
        · obtain rfl : q = 0 := by simpa using hq
          clear hq
          have ix := fun W => (idx4 (.int .i64 u0) (.int .i64 u1) (.int .i64 u2) (.int .i64 u3) W).1
          by_cases hu : u0 = 0
          · have q : (u0 != 0) = false := by simpa using hu
            have HS := Lib.hid (mixR_same (r := r) (r' := r') (j := 0) (by rw [S0.out, if_pos hu, List.append_nil]))
            clear hu
            go_wp2_with fail
            go_roundw
            case rel => exact ⟨1, 1, A, C, by omega, rfl, rfl, by rw [HS.out]; exact HR.out, by rw [HS.out]; exact HX.out, HW.out, hsz, HBR.out⟩
            case measure => simp [intOf]
          · have q : (u0 != 0) = true := by simpa using hu
            have HS := Lib.hid (show upd (mixR r r' 0) 0 (mixR r r' 0 0 ++ [u0]) = mixR r r' (0 + 1) from by
              have e := mixR_next (r := r) (r' := r') (j := 0)
              rw [S0.out, if_neg hu] at e
              rw [mixR_self]
              exact e)
            have hlen : (mixR r r' 0 0).length ≤ es.length := RLi.out 0
            clear hu
            have cL := HX.out.cell (i := 0) (v := .slice (A 0) (mixR r r' 0 0).length (C 0)) rfl
            have lL := HX.out.lt
            have HAL := Lib.hid (fun (o : Obj) => show Below wr.heap.size wr (wr.alloc o) from (Below.refl _ _).alloc (Nat.le_refl _) _)
            generalize hmr : mixR r r' 0 = rr at *
            clear hmr
            go_wp2_with (at_builtin; refine wpList_app _ _ 49 3 (.int .i64 0) 1 8 rfl rfl Tryz.underlying49 info_int rfl (by decide) (by decide) rfl ((HR.out.own 0 (by omega)).alloc _) rfl (Ints_new wr [u0] _ rfl) (by simp) (oneCell_ints _) (by omega) (by simp; omega) ?_; intro B3 k3 w3 hown3 hc3 hb3 hg3 hB3; have f3 := ((HX.out.below (HAL.out _) lL).below hb3 (show W5.heap.size < W7.heap.size by omega)).free 0; have g3 := ((HX.out.below (HAL.out _) lL).below hb3 (show W5.heap.size < W7.heap.size by omega)).cell (i := 0) (v := .slice (A 0) (rr 0).length (C 0)) rfl)
            have HWR := Lib.hid (wround HR.out HX.out (show W5.heap.size < W7.heap.size by omega) (show 0 < 4 by omega) hown3 hg3 hb3 hB3)
            have HW3 := Lib.hid (((HW.out.below (HAL.out _)).low hb3 s7).set ⟨W5.heap.size, 0, none⟩ s6 (.slice B3 ((rr 0).length + 1) k3))
            have HB3 := Lib.hid ((HBR.out.trans (((HAL.out _).mono hrs).trans (hb3.mono (by omega)))).setCell (p := ⟨W5.heap.size, 0, none⟩) (Nat.le_refl _) (.slice B3 ((rr 0).length + 1) k3))
            have hs3 : W7.heap.size ≤ w3.heap.size := by have := hb3.size; simp at this; omega
            rw [HS.out] at HWR
            clear hown3 hc3 hb3 hg3 hB3 f3 g3 cL
            go_wp2_with fail
            go_roundw
            case rel => exact ⟨1, 1, _, _, by omega, rfl, rfl, HWR.out.1, HWR.out.2, HW3.out, by simpa using hs3, HB3.out⟩
            case measure => simp [intOf]
        · obtain rfl : q = 1 := by simpa using hq
          clear hq
          have ix := fun W => (idx4 (.int .i64 u0) (.int .i64 u1) (.int .i64 u2) (.int .i64 u3) W).2.1
          by_cases hu : u1 = 0
          · have q : (u1 != 0) = false := by simpa using hu
            have HS := Lib.hid (mixR_same (r := r) (r' := r') (j := 1) (by rw [S1.out, if_pos hu, List.append_nil]))
            clear hu
            go_wp2_with fail
            go_roundw
            case rel => exact ⟨2, 2, A, C, by omega, rfl, rfl, by rw [HS.out]; exact HR.out, by rw [HS.out]; exact HX.out, HW.out, hsz, HBR.out⟩
            case measure => simp [intOf]
          · have q : (u1 != 0) = true := by simpa using hu
            have HS := Lib.hid (show upd (mixR r r' 1) 1 (mixR r r' 1 1 ++ [u1]) = mixR r r' (1 + 1) from by
              have e := mixR_next (r := r) (r' := r') (j := 1)
              rw [S1.out, if_neg hu] at e
              rw [mixR_self]
              exact e)
            have hlen : (mixR r r' 1 1).length ≤ es.length := RLi.out 1
            clear hu
            have cL := HX.out.cell (i := 1) (v := .slice (A 1) (mixR r r' 1 1).length (C 1)) rfl
            have lL := HX.out.lt
            have HAL := Lib.hid (fun (o : Obj) => show Below wr.heap.size wr (wr.alloc o) from (Below.refl _ _).alloc (Nat.le_refl _) _)
            generalize hmr : mixR r r' 1 = rr at *
            clear hmr
            go_wp2_with (at_builtin; refine wpList_app _ _ 49 3 (.int .i64 0) 1 8 rfl rfl Tryz.underlying49 info_int rfl (by decide) (by decide) rfl ((HR.out.own 1 (by omega)).alloc _) rfl (Ints_new wr [u1] _ rfl) (by simp) (oneCell_ints _) (by omega) (by simp; omega) ?_; intro B3 k3 w3 hown3 hc3 hb3 hg3 hB3; have f3 := ((HX.out.below (HAL.out _) lL).below hb3 (show W5.heap.size < W7.heap.size by omega)).free 1; have g3 := ((HX.out.below (HAL.out _) lL).below hb3 (show W5.heap.size < W7.heap.size by omega)).cell (i := 1) (v := .slice (A 1) (rr 1).length (C 1)) rfl)
            have HWR := Lib.hid (wround HR.out HX.out (show W5.heap.size < W7.heap.size by omega) (show 1 < 4 by omega) hown3 hg3 hb3 hB3)
            have HW3 := Lib.hid (((HW.out.below (HAL.out _)).low hb3 s7).set ⟨W5.heap.size, 1, none⟩ s6 (.slice B3 ((rr 1).length + 1) k3))
            have HB3 := Lib.hid ((HBR.out.trans (((HAL.out _).mono hrs).trans (hb3.mono (by omega)))).setCell (p := ⟨W5.heap.size, 1, none⟩) (Nat.le_refl _) (.slice B3 ((rr 1).length + 1) k3))
            have hs3 : W7.heap.size ≤ w3.heap.size := by have := hb3.size; simp at this; omega
            rw [HS.out] at HWR
            clear hown3 hc3 hb3 hg3 hB3 f3 g3 cL
            go_wp2_with fail
            go_roundw
            case rel => exact ⟨2, 2, _, _, by omega, rfl, rfl, HWR.out.1, HWR.out.2, HW3.out, by simpa using hs3, HB3.out⟩
            case measure => simp [intOf]
        · obtain rfl : q = 2 := by simpa using hq
          clear hq
          have ix := fun W => (idx4 (.int .i64 u0) (.int .i64 u1) (.int .i64 u2) (.int .i64 u3) W).2.2.1
          by_cases hu : u2 = 0
          · have q : (u2 != 0) = false := by simpa using hu
            have HS := Lib.hid (mixR_same (r := r) (r' := r') (j := 2) (by rw [S2.out, if_pos hu, List.append_nil]))
            clear hu
            go_wp2_with fail
            go_roundw
            case rel => exact ⟨3, 3, A, C, by omega, rfl, rfl, by rw [HS.out]; exact HR.out, by rw [HS.out]; exact HX.out, HW.out, hsz, HBR.out⟩
            case measure => simp [intOf]
          · have q : (u2 != 0) = true := by simpa using hu
            have HS := Lib.hid (show upd (mixR r r' 2) 2 (mixR r r' 2 2 ++ [u2]) = mixR r r' (2 + 1) from by
              have e := mixR_next (r := r) (r' := r') (j := 2)
              rw [S2.out, if_neg hu] at e
              rw [mixR_self]
              exact e)
            have hlen : (mixR r r' 2 2).length ≤ es.length := RLi.out 2
            clear hu
            have cL := HX.out.cell (i := 2) (v := .slice (A 2) (mixR r r' 2 2).length (C 2)) rfl
            have lL := HX.out.lt
            have HAL := Lib.hid (fun (o : Obj) => show Below wr.heap.size wr (wr.alloc o) from (Below.refl _ _).alloc (Nat.le_refl _) _)
            generalize hmr : mixR r r' 2 = rr at *
            clear hmr
            go_wp2_with (at_builtin; refine wpList_app _ _ 49 3 (.int .i64 0) 1 8 rfl rfl Tryz.underlying49 info_int rfl (by decide) (by decide) rfl ((HR.out.own 2 (by omega)).alloc _) rfl (Ints_new wr [u2] _ rfl) (by simp) (oneCell_ints _) (by omega) (by simp; omega) ?_; intro B3 k3 w3 hown3 hc3 hb3 hg3 hB3; have f3 := ((HX.out.below (HAL.out _) lL).below hb3 (show W5.heap.size < W7.heap.size by omega)).free 2; have g3 := ((HX.out.below (HAL.out _) lL).below hb3 (show W5.heap.size < W7.heap.size by omega)).cell (i := 2) (v := .slice (A 2) (rr 2).length (C 2)) rfl)
            have HWR := Lib.hid (wround HR.out HX.out (show W5.heap.size < W7.heap.size by omega) (show 2 < 4 by omega) hown3 hg3 hb3 hB3)
            have HW3 := Lib.hid (((HW.out.below (HAL.out _)).low hb3 s7).set ⟨W5.heap.size, 2, none⟩ s6 (.slice B3 ((rr 2).length + 1) k3))
            have HB3 := Lib.hid ((HBR.out.trans (((HAL.out _).mono hrs).trans (hb3.mono (by omega)))).setCell (p := ⟨W5.heap.size, 2, none⟩) (Nat.le_refl _) (.slice B3 ((rr 2).length + 1) k3))
            have hs3 : W7.heap.size ≤ w3.heap.size := by have := hb3.size; simp at this; omega
            rw [HS.out] at HWR
            clear hown3 hc3 hb3 hg3 hB3 f3 g3 cL
            go_wp2_with fail
            go_roundw
            case rel => exact ⟨3, 3, _, _, by omega, rfl, rfl, HWR.out.1, HWR.out.2, HW3.out, by simpa using hs3, HB3.out⟩
            case measure => simp [intOf]
        · obtain rfl : q = 3 := by simpa using hq
          clear hq
          have ix := fun W => (idx4 (.int .i64 u0) (.int .i64 u1) (.int .i64 u2) (.int .i64 u3) W).2.2.2
          by_cases hu : u3 = 0
          · have q : (u3 != 0) = false := by simpa using hu
            have HS := Lib.hid (mixR_same (r := r) (r' := r') (j := 3) (by rw [S3.out, if_pos hu, List.append_nil]))
            clear hu
            go_wp2_with fail
            go_roundw
            case rel => exact ⟨4, 4, A, C, by omega, rfl, rfl, by rw [HS.out]; exact HR.out, by rw [HS.out]; exact HX.out, HW.out, hsz, HBR.out⟩
            case measure => simp [intOf]
          · have q : (u3 != 0) = true := by simpa using hu
            have HS := Lib.hid (show upd (mixR r r' 3) 3 (mixR r r' 3 3 ++ [u3]) = mixR r r' (3 + 1) from by
              have e := mixR_next (r := r) (r' := r') (j := 3)
              rw [S3.out, if_neg hu] at e
              rw [mixR_self]
              exact e)
            have hlen : (mixR r r' 3 3).length ≤ es.length := RLi.out 3
            clear hu
            have cL := HX.out.cell (i := 3) (v := .slice (A 3) (mixR r r' 3 3).length (C 3)) rfl
            have lL := HX.out.lt
            have HAL := Lib.hid (fun (o : Obj) => show Below wr.heap.size wr (wr.alloc o) from (Below.refl _ _).alloc (Nat.le_refl _) _)
            generalize hmr : mixR r r' 3 = rr at *
            clear hmr
            go_wp2_with (at_builtin; refine wpList_app _ _ 49 3 (.int .i64 0) 1 8 rfl rfl Tryz.underlying49 info_int rfl (by decide) (by decide) rfl ((HR.out.own 3 (by omega)).alloc _) rfl (Ints_new wr [u3] _ rfl) (by simp) (oneCell_ints _) (by omega) (by simp; omega) ?_; intro B3 k3 w3 hown3 hc3 hb3 hg3 hB3; have f3 := ((HX.out.below (HAL.out _) lL).below hb3 (show W5.heap.size < W7.heap.size by omega)).free 3; have g3 := ((HX.out.below (HAL.out _) lL).below hb3 (show W5.heap.size < W7.heap.size by omega)).cell (i := 3) (v := .slice (A 3) (rr 3).length (C 3)) rfl)
            have HWR := Lib.hid (wround HR.out HX.out (show W5.heap.size < W7.heap.size by omega) (show 3 < 4 by omega) hown3 hg3 hb3 hB3)
            have HW3 := Lib.hid (((HW.out.below (HAL.out _)).low hb3 s7).set ⟨W5.heap.size, 3, none⟩ s6 (.slice B3 ((rr 3).length + 1) k3))
            have HB3 := Lib.hid ((HBR.out.trans (((HAL.out _).mono hrs).trans (hb3.mono (by omega)))).setCell (p := ⟨W5.heap.size, 3, none⟩) (Nat.le_refl _) (.slice B3 ((rr 3).length + 1) k3))
            have hs3 : W7.heap.size ≤ w3.heap.size := by have := hb3.size; simp at this; omega
            rw [HS.out] at HWR
            clear hown3 hc3 hb3 hg3 hB3 f3 g3 cL
            go_wp2_with fail
            go_roundw
            case rel => exact ⟨4, 4, _, _, by omega, rfl, rfl, HWR.out.1, HWR.out.2, HW3.out, by simpa using hs3, HB3.out⟩
            case measure => simp [intOf]
        · obtain rfl : q = 4 := by simpa using hq
          clear hq
          have HM := Lib.hid (mixR_all HR.out)
          have HXX := Lib.hid (show Box wr W5.heap.size 187 (lcs A C r') from by rw [← HM.out.2]; exact HX.out)
          go_wp2_with fail
          go_roundw
          case rel => exact ⟨i + 1, A, C, by omega, by go_num, by rw [HR1.out]; exact HM.out.1, by rw [HR1.out]; exact HXX.out, by rw [HA1.out]; exact HW.out, hsz, HBR.out⟩
          case measure => simp [intOf]; omega
    · obtain rfl : i = es.length := by omega
      have c0 := (hbr.cell (p := ⟨w.heap.size, 0, none⟩) l5).trans (HX5.out.cell (i := 0) rfl)
      have c2 := (hbr.cell (p := ⟨w.heap.size, 2, none⟩) l5).trans (HX5.out.cell (i := 2) rfl)
      rw [List.take_length] at HR HX HW
      have RLe := RL.out es.length 1
      rw [List.take_length] at RLe
      clear SN AN RL HE5
      cases bk with
      | true =>
        have hc1 := HX.out.cell (i := 1) (v := .slice (A 1) (rwN va es 1).length (C 1)) rfl
        have RV := Lib.hid (rev_own (A 1) (rwN va es 1).length (C 1) W7.heap.size (rwN va es 1) wr (HR.out.own 1 (by omega)) rfl (by omega))
        have LK1 := Lib.hid (show ∀ k, k < 4 → upd (rwN va es) 1 (rwN va es 1).reverse k = lv k from fun k hk => by
          rw [LK.out]
          by_cases e : k = 1
          · subst e; rw [upd_at, if_pos ⟨rfl, rfl⟩]
          · rw [upd_ne e, if_neg (fun g => e g.1)])
        go_wp2_with fail
        with_reducible refine RV.out.mono ?_
        rintro e W9 ⟨rfl, ho9, hg9⟩
        rw [ownBlock_blk] at hg9
        have HR9 := Lib.hid (show R4 W9 W7.heap.size (upd A 1 (A 1)) (upd C 1 (C 1)) (upd (rwN va es) 1 (rwN va es 1).reverse) from HR.out.put (by omega) (zs := (rwN va es 1).reverse) (by rw [List.length_reverse]; exact ho9) hg9 (.inl rfl))
        have hge : ∀ q, blk (A 1) = some q → W7.heap.size ≤ q := fun q hq => (HR.out.lt (by omega) hq).1
        have HX9 := Lib.hid (show Box W9 W5.heap.size 187 (lcs (upd A 1 (A 1)) (upd C 1 (C 1)) (upd (rwN va es) 1 (rwN va es 1).reverse)) from by
          have e := lcs_put A C (rwN va es) (j := 1) (by omega) (A 1) (C 1) (rwN va es 1).reverse
          rw [List.length_reverse] at e
          rw [← e, show (lcs A C (rwN va es)).set 1 (.slice (A 1) (rwN va es 1).length (C 1)) = lcs A C (rwN va es) from rfl]
          refine HX.out.grown hg9 (fun e => ?_)
          have := hge _ e.symm
          omega)
        have hb9 : Below W5.heap.size W5 W9 := hbr.trans ⟨hg9.os, hg9.tape, hg9.output, hg9.size, fun k hk => hg9.block k (by omega) (fun e => by have := hge _ e.symm; omega)⟩
        have d0 := (hb9.cell (p := ⟨w.heap.size, 0, none⟩) l5).trans (HX5.out.cell (i := 0) rfl)
        have hz9 : W5.heap.size ≤ W9.heap.size := hb9.size
        clear RV ho9 hg9 hc1 c0 c2 HR HX HW
        generalize upd (rwN va es) 1 (rwN va es 1).reverse = r9 at *
        generalize upd A 1 (A 1) = A9 at *
        generalize upd C 1 (C 1) = C9 at *
        have hst : st = 1 ∨ st = 2 ∨ st = 3 ∨ st = 4 := by omega
        rcases hst with rfl | rfl | rfl | rfl
        · have HWL := Lib.hid (WL.out 1 r9 rfl LK1.out (by omega))
          have hwl : wl.length = 1 := by rw [← HWL.out]; simp
          have HLEN := Lib.hid hwl
          clear hwl
          go_wp2_with (at_builtin; refine wpList_app0 _ _ 145 49 (.slice none 0 0) 1 24 rfl rfl Tryz.underlying145 info_ints rfl (by decide) (by decide) rfl (m := 1) rfl (HX9.out.slT 1) rfl (by intro v hv; simp [lcs] at hv; rcases hv with rfl | rfl | rfl | rfl <;> rfl) (by omega) ?_; intro B6 k6 w6 hown6 hc6 hb6)
          have HRA := Lib.hid (rows_lcs (HR9.out.below hb6) (show 1 ≤ 4 by omega) (Sl.of_own hown6))
          have hb8 := HB5.out.trans ((hb9.trans (hb6.mono hz9)).mono HB5.out.size)
          clear hown6 hb6
          go_wp2_with fail
          go_ret
          exact ⟨B6, k6, by rw [HLEN.out]; rfl, by rw [← HWL.out]; exact HRA.out, hb8⟩
        · have HWL := Lib.hid (WL.out 2 r9 rfl LK1.out (by omega))
          have hwl : wl.length = 2 := by rw [← HWL.out]; simp
          have HLEN := Lib.hid hwl
          clear hwl
          go_wp2_with (at_builtin; refine wpList_app0 _ _ 145 49 (.slice none 0 0) 1 24 rfl rfl Tryz.underlying145 info_ints rfl (by decide) (by decide) rfl (m := 2) rfl (HX9.out.slT 2) rfl (by intro v hv; simp [lcs] at hv; rcases hv with rfl | rfl | rfl | rfl <;> rfl) (by omega) ?_; intro B6 k6 w6 hown6 hc6 hb6)
          have HRA := Lib.hid (rows_lcs (HR9.out.below hb6) (show 2 ≤ 4 by omega) (Sl.of_own hown6))
          have hb8 := HB5.out.trans ((hb9.trans (hb6.mono hz9)).mono HB5.out.size)
          clear hown6 hb6
          go_wp2_with fail
          go_ret
          exact ⟨B6, k6, by rw [HLEN.out]; rfl, by rw [← HWL.out]; exact HRA.out, hb8⟩
        · have HWL := Lib.hid (WL.out 3 r9 rfl LK1.out (by omega))
          have hwl : wl.length = 3 := by rw [← HWL.out]; simp
          have HLEN := Lib.hid hwl
          clear hwl
          go_wp2_with (at_builtin; refine wpList_app0 _ _ 145 49 (.slice none 0 0) 1 24 rfl rfl Tryz.underlying145 info_ints rfl (by decide) (by decide) rfl (m := 3) rfl (HX9.out.slT 3) rfl (by intro v hv; simp [lcs] at hv; rcases hv with rfl | rfl | rfl | rfl <;> rfl) (by omega) ?_; intro B6 k6 w6 hown6 hc6 hb6)
          have HRA := Lib.hid (rows_lcs (HR9.out.below hb6) (show 3 ≤ 4 by omega) (Sl.of_own hown6))
          have hb8 := HB5.out.trans ((hb9.trans (hb6.mono hz9)).mono HB5.out.size)
          clear hown6 hb6
          go_wp2_with fail
          go_ret
          exact ⟨B6, k6, by rw [HLEN.out]; rfl, by rw [← HWL.out]; exact HRA.out, hb8⟩
        · have HWL := Lib.hid (WL.out 4 r9 rfl LK1.out (by omega))
          have hwl : wl.length = 4 := by rw [← HWL.out]; simp
          have HLEN := Lib.hid hwl
          clear hwl
          go_wp2_with (at_builtin; refine wpList_app0 _ _ 145 49 (.slice none 0 0) 1 24 rfl rfl Tryz.underlying145 info_ints rfl (by decide) (by decide) rfl (m := 4) rfl (HX9.out.slT 4) rfl (by intro v hv; simp [lcs] at hv; rcases hv with rfl | rfl | rfl | rfl <;> rfl) (by omega) ?_; intro B6 k6 w6 hown6 hc6 hb6)
          have HRA := Lib.hid (rows_lcs (HR9.out.below hb6) (show 4 ≤ 4 by omega) (Sl.of_own hown6))
          have hb8 := HB5.out.trans ((hb9.trans (hb6.mono hz9)).mono HB5.out.size)
          clear hown6 hb6
          go_wp2_with fail
          go_ret
          exact ⟨B6, k6, by rw [HLEN.out]; rfl, by rw [← HWL.out]; exact HRA.out, hb8⟩
      | false =>
        have LK1 := Lib.hid (show ∀ k, k < 4 → rwN va es k = lv k from fun k hk => by
          rw [LK.out, if_neg (by simp)])
        have HR9 := HR
        have HX9 := HX
        have hb9 := hbr
        have hz9 : W5.heap.size ≤ wr.heap.size := hb9.size
        clear HR HX HW
        have hst : st = 1 ∨ st = 2 ∨ st = 3 ∨ st = 4 := by omega
        generalize rwN va es = r9 at *
        rcases hst with rfl | rfl | rfl | rfl
        · have HWL := Lib.hid (WL.out 1 r9 rfl LK1.out (by omega))
          have hwl : wl.length = 1 := by rw [← HWL.out]; simp
          have HLEN := Lib.hid hwl
          clear hwl
          go_wp2_with (at_builtin; refine wpList_app0 _ _ 145 49 (.slice none 0 0) 1 24 rfl rfl Tryz.underlying145 info_ints rfl (by decide) (by decide) rfl (m := 1) rfl (HX9.out.slT 1) rfl (by intro v hv; simp [lcs] at hv; rcases hv with rfl | rfl | rfl | rfl <;> rfl) (by omega) ?_; intro B6 k6 w6 hown6 hc6 hb6)
          have HRA := Lib.hid (rows_lcs (HR9.out.below hb6) (show 1 ≤ 4 by omega) (Sl.of_own hown6))
          have hb8 := HB5.out.trans ((hb9.trans (hb6.mono hz9)).mono HB5.out.size)
          clear hown6 hb6
          go_wp2_with fail
          go_ret
          exact ⟨B6, k6, by rw [HLEN.out]; rfl, by rw [← HWL.out]; exact HRA.out, hb8⟩
        · have HWL := Lib.hid (WL.out 2 r9 rfl LK1.out (by omega))
          have hwl : wl.length = 2 := by rw [← HWL.out]; simp
          have HLEN := Lib.hid hwl
          clear hwl
          go_wp2_with (at_builtin; refine wpList_app0 _ _ 145 49 (.slice none 0 0) 1 24 rfl rfl Tryz.underlying145 info_ints rfl (by decide) (by decide) rfl (m := 2) rfl (HX9.out.slT 2) rfl (by intro v hv; simp [lcs] at hv; rcases hv with rfl | rfl | rfl | rfl <;> rfl) (by omega) ?_; intro B6 k6 w6 hown6 hc6 hb6)
          have HRA := Lib.hid (rows_lcs (HR9.out.below hb6) (show 2 ≤ 4 by omega) (Sl.of_own hown6))
          have hb8 := HB5.out.trans ((hb9.trans (hb6.mono hz9)).mono HB5.out.size)
          clear hown6 hb6
          go_wp2_with fail
          go_ret
          exact ⟨B6, k6, by rw [HLEN.out]; rfl, by rw [← HWL.out]; exact HRA.out, hb8⟩
        · have HWL := Lib.hid (WL.out 3 r9 rfl LK1.out (by omega))
          have hwl : wl.length = 3 := by rw [← HWL.out]; simp
          have HLEN := Lib.hid hwl
          clear hwl
          go_wp2_with (at_builtin; refine wpList_app0 _ _ 145 49 (.slice none 0 0) 1 24 rfl rfl Tryz.underlying145 info_ints rfl (by decide) (by decide) rfl (m := 3) rfl (HX9.out.slT 3) rfl (by intro v hv; simp [lcs] at hv; rcases hv with rfl | rfl | rfl | rfl <;> rfl) (by omega) ?_; intro B6 k6 w6 hown6 hc6 hb6)
          have HRA := Lib.hid (rows_lcs (HR9.out.below hb6) (show 3 ≤ 4 by omega) (Sl.of_own hown6))
          have hb8 := HB5.out.trans ((hb9.trans (hb6.mono hz9)).mono HB5.out.size)
          clear hown6 hb6
          go_wp2_with fail
          go_ret
          exact ⟨B6, k6, by rw [HLEN.out]; rfl, by rw [← HWL.out]; exact HRA.out, hb8⟩
        · have HWL := Lib.hid (WL.out 4 r9 rfl LK1.out (by omega))
          have hwl : wl.length = 4 := by rw [← HWL.out]; simp
          have HLEN := Lib.hid hwl
          clear hwl
          go_wp2_with (at_builtin; refine wpList_app0 _ _ 145 49 (.slice none 0 0) 1 24 rfl rfl Tryz.underlying145 info_ints rfl (by decide) (by decide) rfl (m := 4) rfl (HX9.out.slT 4) rfl (by intro v hv; simp [lcs] at hv; rcases hv with rfl | rfl | rfl | rfl <;> rfl) (by omega) ?_; intro B6 k6 w6 hown6 hc6 hb6)
          have HRA := Lib.hid (rows_lcs (HR9.out.below hb6) (show 4 ≤ 4 by omega) (Sl.of_own hown6))
          have hb8 := HB5.out.trans ((hb9.trans (hb6.mono hz9)).mono HB5.out.size)
          clear hown6 hb6
          go_wp2_with fail
          go_ret
          exact ⟨B6, k6, by rw [HLEN.out]; rfl, by rw [← HWL.out]; exact HRA.out, hb8⟩
end Go.Proofs.YtpfbnikbebccjaaGreatDoor
/- The contract of sort.Search, whatever the closure is. -/
namespace Go.Proofs.YtpfbnikbebccjaaGreatDoor
open Go.RowKit

/-- where a search ends -/
structure Found (n : Nat) (p : Nat → Bool) (i : Nat) : Prop where
  le : i ≤ n
  lo : ∀ t, t < i → p t = false
  hi : ∀ t, i ≤ t → t < n → p t = true
def RetFound (n : Nat) (p : Nat → Bool) (w : World) (e : Ending) (w' : World) : Prop := ∃ i : Nat, e = .returned (.int .i64 i) ∧ Found n p i ∧ Below w.heap.size w w'

set_option maxHeartbeats 1600000 in
theorem search_any (g : FuncId) (cb : Array Value) (n : Nat) (p : Nat → Bool) (w : World) (eg : ∀ args W, (callFunc g args).run Tryz.prog W = .ok (.enter g args) W) (hbig : n ≤ 1099511627776)
    (hf : ∀ (i : Nat) (W : World), i < n → Below w.heap.size w W → Calls Tryz.prog g (#[.int .i64 i] ++ cb) W (RetBool (p i) W)) (hm : ∀ a b, a ≤ b → b < n → p a = true → p b = true) :
    Calls Tryz.prog 85 #[.int .i64 n, .func (.func g) #[] cb] w (RetFound n p w) := by
  have HF := Lib.hid hf
  have HM := Lib.hid hm
  clear hf hm
  go_enter Tryz.func85, Tryz.ntmps85
  go_wp2
  go_loopw [5, 6] (fun u v wr => ∃ i j : Nat, i ≤ j ∧ j ≤ n ∧ u = .int .i64 i ∧ v = .int .i64 j ∧ (∀ t, t < i → p t = false) ∧ (∀ t, j ≤ t → t < n → p t = true) ∧ Below w.heap.size w wr)
    (fun u v _ => (intOf v).toNat - (intOf u).toNat)
  case atStart => exact ⟨0, n, Nat.zero_le _, Nat.le_refl _, rfl, rfl, fun t h => by omega, fun t h1 h2 => by omega, Below.refl _ _⟩
  case round =>
    obtain ⟨i, j, hij, hj, rfl, rfl, hlo, hhi, hbel⟩ := hrel
    have HLO := Lib.hid hlo; have HHI := Lib.hid hhi; clear hlo hhi
    by_cases hlt : i < j
    · obtain ⟨h, hh, h1, h2, h3⟩ : ∃ h : Nat, ((i : Int) + (j : Int)) / 2 = (h : Int) ∧ i ≤ h ∧ h < j ∧ h < n := ⟨(i + j) / 2, by omega, by omega, by omega, by omega⟩
      have C := Lib.hid (HF.out h wr h3 hbel)
      cases hp : p h with
      | true =>
        have HP := Lib.hid hp
        rw [hp] at C
        clear hp
        go_wp2_with (go_at_fn g; refine C.out.mono ?_; rintro e w1 ⟨rfl, hb1⟩)
        go_roundw
        case rel => exact ⟨i, h, h1, by omega, rfl, rfl, HLO.out, fun t g1 g2 => HM.out h t g1 g2 HP.out, hbel.trans (hb1.mono hbel.size)⟩
        case measure => simp [intOf]; omega
      | false =>
        have HP := Lib.hid hp
        rw [hp] at C
        clear hp
        go_wp2_with (go_at_fn g; refine C.out.mono ?_; rintro e w1 ⟨rfl, hb1⟩)
        go_roundw
        case rel =>
          refine ⟨h + 1, j, by omega, hj, by go_num, rfl, fun t g1 => ?_, HHI.out, hbel.trans (hb1.mono hbel.size)⟩
          cases ht : p t with
          | false => rfl
          | true => have := HM.out t h (by omega) h3 ht; rw [HP.out] at this; cases this
        case measure => simp [intOf]; omega
    · obtain rfl : i = j := by omega
      go_wp2_with fail
      go_ret
      exact ⟨i, rfl, ⟨hj, HLO.out, HHI.out⟩, hbel⟩
end Go.Proofs.YtpfbnikbebccjaaGreatDoor
/- Contracts of the reference's entry and Check: the first error of a collation. -/
namespace Go.Proofs.YtpfbnikbebccjaaGreatDoor
open Go.RowKit Go.Maps Go.WideMaps

end Go.Proofs.YtpfbnikbebccjaaGreatDoor
/- The contract of colltable.keyOf: the key of one to eight codes. Written by gen_key.py. -/
namespace Go.Proofs.YtpfbnikbebccjaaGreatDoor
open Go.RowKit Go.Maps Go.WideMaps

def keyL (zs : List Int) : List Int := (zs.length : Int) :: (zs ++ List.replicate (8 - zs.length) 0)
def keyV (zs : List Int) : Value := .agg ((keyL zs).map (Value.int .i64)).toArray
def RetKey (zs : List Int) (w : World) (e : Ending) (w' : World) : Prop := e = .returned (keyV zs) ∧ Below w.heap.size w w'
theorem info_int1 : (Tryz.prog.info? 3).map (·.size) = some 1 := by kernel_rfl
theorem results_key (tmps : Array Value) (w : World) {b : Nat} {z0 z1 z2 z3 z4 z5 z6 z7 z8 : Int} (ha : tmps.getD 2 undef = .pointer (some ⟨b, 0, none⟩))
    (c0 : w.cell? ⟨b, 0, none⟩ = some (.int .i64 z0)) (c1 : w.cell? ⟨b, 1, none⟩ = some (.int .i64 z1)) (c2 : w.cell? ⟨b, 2, none⟩ = some (.int .i64 z2)) (c3 : w.cell? ⟨b, 3, none⟩ = some (.int .i64 z3)) (c4 : w.cell? ⟨b, 4, none⟩ = some (.int .i64 z4)) (c5 : w.cell? ⟨b, 5, none⟩ = some (.int .i64 z5)) (c6 : w.cell? ⟨b, 6, none⟩ = some (.int .i64 z6)) (c7 : w.cell? ⟨b, 7, none⟩ = some (.int .i64 z7)) (c8 : w.cell? ⟨b, 8, none⟩ = some (.int .i64 z8)) :
    (results Tryz.f167 tmps).run Tryz.prog w = .ok (.agg #[.int .i64 z0, .int .i64 z1, .int .i64 z2, .int .i64 z3, .int .i64 z4, .int .i64 z5, .int .i64 z6, .int .i64 z7, .int .i64 z8]) w := by
  have hr : Tryz.f167.results = #[.cell 2 215] := rfl
  unfold results
  rw [hr]
  simp only [ha, List.mapM_toArray, List.mapM_cons, List.mapM_nil, asAddr]
  go_simp

set_option maxRecDepth 100000 in
set_option maxHeartbeats 1600000 in
theorem keyOf_1 (A : Option Addr) (kc : Nat) (a0 : Int) (w : World) (hA : Ints w A [a0]) : Calls Tryz.prog 167 #[.slice A 1 kc] w (RetKey [a0] w) := by
  obtain ⟨b, o, rfl, hc⟩ := hA.at (k := 0) (by simp)
  have hs := fun (W : World) => run_copy_cells (P := Tryz.prog) W 49 49 3 3 (w.heap.size + 1) 1 8 8 ⟨b, o, none⟩ 1 kc [.int .i64 a0] Tryz.underlying49 info_int1 rfl
  have hI : Ints ((w.alloc (.cells #[.int .i64 0, .int .i64 0, .int .i64 0, .int .i64 0, .int .i64 0, .int .i64 0, .int .i64 0, .int .i64 0, .int .i64 0] 215)).alloc (.cells #[.int .i64 1, .int .i64 0, .int .i64 0, .int .i64 0, .int .i64 0, .int .i64 0, .int .i64 0, .int .i64 0, .int .i64 0] 215)) (some ⟨b, o, none⟩) [a0] := Sl.alloc (Sl.alloc hA _) _
  have hcp := hs _ (fun j v hv => by
    obtain ⟨b', o', h1, h2⟩ := hI (by simp)
    injection h1 with h1
    injection h1 with h1 h3
    subst h1; subst h3
    have := h2 j v (by simpa using hv)
    unfold Addr.add
    split
    · next h0 => subst h0; simpa using this
    · exact this) (fun j hj => by
      have : j < 8 := by simp at hj; omega
      rcases j with _ | _ | _ | _ | _ | _ | _ | _ | j <;> first | (simp; done) | omega) (fun j hj => by simp) (oneCell_ints [a0])
  simp only [World.setCells, goInt] at hcp
  clear hs hI hc
  go_enter Tryz.func167, Tryz.ntmps167
  go_wp2_with fail
  (try simp only [Exit.inBlock, Exit.then]); refine bodyPost_ret (results_key _ _ (b := w.heap.size) (z0 := 1) (z1 := a0) (z2 := 0) (z3 := 0) (z4 := 0) (z5 := 0) (z6 := 0) (z7 := 0) (z8 := 0) rfl (by go_simp) (by go_simp) (by go_simp) (by go_simp) (by go_simp) (by go_simp) (by go_simp) (by go_simp) (by go_simp)) rfl ?_
  exact ⟨rfl, ((Below.refl _ _).alloc (Nat.le_refl _) _).alloc (by simp) _⟩

set_option maxRecDepth 100000 in
set_option maxHeartbeats 1600000 in
theorem keyOf_2 (A : Option Addr) (kc : Nat) (a0 a1 : Int) (w : World) (hA : Ints w A [a0, a1]) : Calls Tryz.prog 167 #[.slice A 2 kc] w (RetKey [a0, a1] w) := by
  obtain ⟨b, o, rfl, hc⟩ := hA.at (k := 0) (by simp)
  have hs := fun (W : World) => run_copy_cells (P := Tryz.prog) W 49 49 3 3 (w.heap.size + 1) 1 8 8 ⟨b, o, none⟩ 2 kc [.int .i64 a0, .int .i64 a1] Tryz.underlying49 info_int1 rfl
  have hI : Ints ((w.alloc (.cells #[.int .i64 0, .int .i64 0, .int .i64 0, .int .i64 0, .int .i64 0, .int .i64 0, .int .i64 0, .int .i64 0, .int .i64 0] 215)).alloc (.cells #[.int .i64 2, .int .i64 0, .int .i64 0, .int .i64 0, .int .i64 0, .int .i64 0, .int .i64 0, .int .i64 0, .int .i64 0] 215)) (some ⟨b, o, none⟩) [a0, a1] := Sl.alloc (Sl.alloc hA _) _
  have hcp := hs _ (fun j v hv => by
    obtain ⟨b', o', h1, h2⟩ := hI (by simp)
    injection h1 with h1
    injection h1 with h1 h3
    subst h1; subst h3
    have := h2 j v (by simpa using hv)
    unfold Addr.add
    split
    · next h0 => subst h0; simpa using this
    · exact this) (fun j hj => by
      have : j < 8 := by simp at hj; omega
      rcases j with _ | _ | _ | _ | _ | _ | _ | _ | j <;> first | (simp; done) | omega) (fun j hj => by simp) (oneCell_ints [a0, a1])
  simp only [World.setCells, goInt] at hcp
  clear hs hI hc
  go_enter Tryz.func167, Tryz.ntmps167
  go_wp2_with fail
  (try simp only [Exit.inBlock, Exit.then]); refine bodyPost_ret (results_key _ _ (b := w.heap.size) (z0 := 2) (z1 := a0) (z2 := a1) (z3 := 0) (z4 := 0) (z5 := 0) (z6 := 0) (z7 := 0) (z8 := 0) rfl (by go_simp) (by go_simp) (by go_simp) (by go_simp) (by go_simp) (by go_simp) (by go_simp) (by go_simp) (by go_simp)) rfl ?_
  exact ⟨rfl, ((Below.refl _ _).alloc (Nat.le_refl _) _).alloc (by simp) _⟩

set_option maxRecDepth 100000 in
set_option maxHeartbeats 1600000 in
theorem keyOf_3 (A : Option Addr) (kc : Nat) (a0 a1 a2 : Int) (w : World) (hA : Ints w A [a0, a1, a2]) : Calls Tryz.prog 167 #[.slice A 3 kc] w (RetKey [a0, a1, a2] w) := by
  obtain ⟨b, o, rfl, hc⟩ := hA.at (k := 0) (by simp)
  have hs := fun (W : World) => run_copy_cells (P := Tryz.prog) W 49 49 3 3 (w.heap.size + 1) 1 8 8 ⟨b, o, none⟩ 3 kc [.int .i64 a0, .int .i64 a1, .int .i64 a2] Tryz.underlying49 info_int1 rfl
  have hI : Ints ((w.alloc (.cells #[.int .i64 0, .int .i64 0, .int .i64 0, .int .i64 0, .int .i64 0, .int .i64 0, .int .i64 0, .int .i64 0, .int .i64 0] 215)).alloc (.cells #[.int .i64 3, .int .i64 0, .int .i64 0, .int .i64 0, .int .i64 0, .int .i64 0, .int .i64 0, .int .i64 0, .int .i64 0] 215)) (some ⟨b, o, none⟩) [a0, a1, a2] := Sl.alloc (Sl.alloc hA _) _
  have hcp := hs _ (fun j v hv => by
    obtain ⟨b', o', h1, h2⟩ := hI (by simp)
    injection h1 with h1
    injection h1 with h1 h3
    subst h1; subst h3
    have := h2 j v (by simpa using hv)
    unfold Addr.add
    split
    · next h0 => subst h0; simpa using this
    · exact this) (fun j hj => by
      have : j < 8 := by simp at hj; omega
      rcases j with _ | _ | _ | _ | _ | _ | _ | _ | j <;> first | (simp; done) | omega) (fun j hj => by simp) (oneCell_ints [a0, a1, a2])
  simp only [World.setCells, goInt] at hcp
  clear hs hI hc
  go_enter Tryz.func167, Tryz.ntmps167
  go_wp2_with fail
  (try simp only [Exit.inBlock, Exit.then]); refine bodyPost_ret (results_key _ _ (b := w.heap.size) (z0 := 3) (z1 := a0) (z2 := a1) (z3 := a2) (z4 := 0) (z5 := 0) (z6 := 0) (z7 := 0) (z8 := 0) rfl (by go_simp) (by go_simp) (by go_simp) (by go_simp) (by go_simp) (by go_simp) (by go_simp) (by go_simp) (by go_simp)) rfl ?_
  exact ⟨rfl, ((Below.refl _ _).alloc (Nat.le_refl _) _).alloc (by simp) _⟩

set_option maxRecDepth 100000 in
set_option maxHeartbeats 1600000 in
theorem keyOf_4 (A : Option Addr) (kc : Nat) (a0 a1 a2 a3 : Int) (w : World) (hA : Ints w A [a0, a1, a2, a3]) : Calls Tryz.prog 167 #[.slice A 4 kc] w (RetKey [a0, a1, a2, a3] w) := by
  obtain ⟨b, o, rfl, hc⟩ := hA.at (k := 0) (by simp)
  have hs := fun (W : World) => run_copy_cells (P := Tryz.prog) W 49 49 3 3 (w.heap.size + 1) 1 8 8 ⟨b, o, none⟩ 4 kc [.int .i64 a0, .int .i64 a1, .int .i64 a2, .int .i64 a3] Tryz.underlying49 info_int1 rfl
  have hI : Ints ((w.alloc (.cells #[.int .i64 0, .int .i64 0, .int .i64 0, .int .i64 0, .int .i64 0, .int .i64 0, .int .i64 0, .int .i64 0, .int .i64 0] 215)).alloc (.cells #[.int .i64 4, .int .i64 0, .int .i64 0, .int .i64 0, .int .i64 0, .int .i64 0, .int .i64 0, .int .i64 0, .int .i64 0] 215)) (some ⟨b, o, none⟩) [a0, a1, a2, a3] := Sl.alloc (Sl.alloc hA _) _
  have hcp := hs _ (fun j v hv => by
    obtain ⟨b', o', h1, h2⟩ := hI (by simp)
    injection h1 with h1
    injection h1 with h1 h3
    subst h1; subst h3
    have := h2 j v (by simpa using hv)
    unfold Addr.add
    split
    · next h0 => subst h0; simpa using this
    · exact this) (fun j hj => by
      have : j < 8 := by simp at hj; omega
      rcases j with _ | _ | _ | _ | _ | _ | _ | _ | j <;> first | (simp; done) | omega) (fun j hj => by simp) (oneCell_ints [a0, a1, a2, a3])
  simp only [World.setCells, goInt] at hcp
  clear hs hI hc
  go_enter Tryz.func167, Tryz.ntmps167
  go_wp2_with fail
  (try simp only [Exit.inBlock, Exit.then]); refine bodyPost_ret (results_key _ _ (b := w.heap.size) (z0 := 4) (z1 := a0) (z2 := a1) (z3 := a2) (z4 := a3) (z5 := 0) (z6 := 0) (z7 := 0) (z8 := 0) rfl (by go_simp) (by go_simp) (by go_simp) (by go_simp) (by go_simp) (by go_simp) (by go_simp) (by go_simp) (by go_simp)) rfl ?_
  exact ⟨rfl, ((Below.refl _ _).alloc (Nat.le_refl _) _).alloc (by simp) _⟩

set_option maxRecDepth 100000 in
set_option maxHeartbeats 1600000 in
theorem keyOf_5 (A : Option Addr) (kc : Nat) (a0 a1 a2 a3 a4 : Int) (w : World) (hA : Ints w A [a0, a1, a2, a3, a4]) : Calls Tryz.prog 167 #[.slice A 5 kc] w (RetKey [a0, a1, a2, a3, a4] w) := by
  obtain ⟨b, o, rfl, hc⟩ := hA.at (k := 0) (by simp)
  have hs := fun (W : World) => run_copy_cells (P := Tryz.prog) W 49 49 3 3 (w.heap.size + 1) 1 8 8 ⟨b, o, none⟩ 5 kc [.int .i64 a0, .int .i64 a1, .int .i64 a2, .int .i64 a3, .int .i64 a4] Tryz.underlying49 info_int1 rfl
  have hI : Ints ((w.alloc (.cells #[.int .i64 0, .int .i64 0, .int .i64 0, .int .i64 0, .int .i64 0, .int .i64 0, .int .i64 0, .int .i64 0, .int .i64 0] 215)).alloc (.cells #[.int .i64 5, .int .i64 0, .int .i64 0, .int .i64 0, .int .i64 0, .int .i64 0, .int .i64 0, .int .i64 0, .int .i64 0] 215)) (some ⟨b, o, none⟩) [a0, a1, a2, a3, a4] := Sl.alloc (Sl.alloc hA _) _
  have hcp := hs _ (fun j v hv => by
    obtain ⟨b', o', h1, h2⟩ := hI (by simp)
    injection h1 with h1
    injection h1 with h1 h3
    subst h1; subst h3
    have := h2 j v (by simpa using hv)
    unfold Addr.add
    split
    · next h0 => subst h0; simpa using this
    · exact this) (fun j hj => by
      have : j < 8 := by simp at hj; omega
      rcases j with _ | _ | _ | _ | _ | _ | _ | _ | j <;> first | (simp; done) | omega) (fun j hj => by simp) (oneCell_ints [a0, a1, a2, a3, a4])
  simp only [World.setCells, goInt] at hcp
  clear hs hI hc
  go_enter Tryz.func167, Tryz.ntmps167
  go_wp2_with fail
  (try simp only [Exit.inBlock, Exit.then]); refine bodyPost_ret (results_key _ _ (b := w.heap.size) (z0 := 5) (z1 := a0) (z2 := a1) (z3 := a2) (z4 := a3) (z5 := a4) (z6 := 0) (z7 := 0) (z8 := 0) rfl (by go_simp) (by go_simp) (by go_simp) (by go_simp) (by go_simp) (by go_simp) (by go_simp) (by go_simp) (by go_simp)) rfl ?_
  exact ⟨rfl, ((Below.refl _ _).alloc (Nat.le_refl _) _).alloc (by simp) _⟩

set_option maxRecDepth 100000 in
set_option maxHeartbeats 1600000 in
theorem keyOf_6 (A : Option Addr) (kc : Nat) (a0 a1 a2 a3 a4 a5 : Int) (w : World) (hA : Ints w A [a0, a1, a2, a3, a4, a5]) : Calls Tryz.prog 167 #[.slice A 6 kc] w (RetKey [a0, a1, a2, a3, a4, a5] w) := by
  obtain ⟨b, o, rfl, hc⟩ := hA.at (k := 0) (by simp)
  have hs := fun (W : World) => run_copy_cells (P := Tryz.prog) W 49 49 3 3 (w.heap.size + 1) 1 8 8 ⟨b, o, none⟩ 6 kc [.int .i64 a0, .int .i64 a1, .int .i64 a2, .int .i64 a3, .int .i64 a4, .int .i64 a5] Tryz.underlying49 info_int1 rfl
  have hI : Ints ((w.alloc (.cells #[.int .i64 0, .int .i64 0, .int .i64 0, .int .i64 0, .int .i64 0, .int .i64 0, .int .i64 0, .int .i64 0, .int .i64 0] 215)).alloc (.cells #[.int .i64 6, .int .i64 0, .int .i64 0, .int .i64 0, .int .i64 0, .int .i64 0, .int .i64 0, .int .i64 0, .int .i64 0] 215)) (some ⟨b, o, none⟩) [a0, a1, a2, a3, a4, a5] := Sl.alloc (Sl.alloc hA _) _
  have hcp := hs _ (fun j v hv => by
    obtain ⟨b', o', h1, h2⟩ := hI (by simp)
    injection h1 with h1
    injection h1 with h1 h3
    subst h1; subst h3
    have := h2 j v (by simpa using hv)
    unfold Addr.add
    split
    · next h0 => subst h0; simpa using this
    · exact this) (fun j hj => by
      have : j < 8 := by simp at hj; omega
      rcases j with _ | _ | _ | _ | _ | _ | _ | _ | j <;> first | (simp; done) | omega) (fun j hj => by simp) (oneCell_ints [a0, a1, a2, a3, a4, a5])
  simp only [World.setCells, goInt] at hcp
  clear hs hI hc
  go_enter Tryz.func167, Tryz.ntmps167
  go_wp2_with fail
  (try simp only [Exit.inBlock, Exit.then]); refine bodyPost_ret (results_key _ _ (b := w.heap.size) (z0 := 6) (z1 := a0) (z2 := a1) (z3 := a2) (z4 := a3) (z5 := a4) (z6 := a5) (z7 := 0) (z8 := 0) rfl (by go_simp) (by go_simp) (by go_simp) (by go_simp) (by go_simp) (by go_simp) (by go_simp) (by go_simp) (by go_simp)) rfl ?_
  exact ⟨rfl, ((Below.refl _ _).alloc (Nat.le_refl _) _).alloc (by simp) _⟩

set_option maxRecDepth 100000 in
set_option maxHeartbeats 1600000 in
theorem keyOf_7 (A : Option Addr) (kc : Nat) (a0 a1 a2 a3 a4 a5 a6 : Int) (w : World) (hA : Ints w A [a0, a1, a2, a3, a4, a5, a6]) : Calls Tryz.prog 167 #[.slice A 7 kc] w (RetKey [a0, a1, a2, a3, a4, a5, a6] w) := by
  obtain ⟨b, o, rfl, hc⟩ := hA.at (k := 0) (by simp)
  have hs := fun (W : World) => run_copy_cells (P := Tryz.prog) W 49 49 3 3 (w.heap.size + 1) 1 8 8 ⟨b, o, none⟩ 7 kc [.int .i64 a0, .int .i64 a1, .int .i64 a2, .int .i64 a3, .int .i64 a4, .int .i64 a5, .int .i64 a6] Tryz.underlying49 info_int1 rfl
  have hI : Ints ((w.alloc (.cells #[.int .i64 0, .int .i64 0, .int .i64 0, .int .i64 0, .int .i64 0, .int .i64 0, .int .i64 0, .int .i64 0, .int .i64 0] 215)).alloc (.cells #[.int .i64 7, .int .i64 0, .int .i64 0, .int .i64 0, .int .i64 0, .int .i64 0, .int .i64 0, .int .i64 0, .int .i64 0] 215)) (some ⟨b, o, none⟩) [a0, a1, a2, a3, a4, a5, a6] := Sl.alloc (Sl.alloc hA _) _
  have hcp := hs _ (fun j v hv => by
    obtain ⟨b', o', h1, h2⟩ := hI (by simp)
    injection h1 with h1
    injection h1 with h1 h3
    subst h1; subst h3
    have := h2 j v (by simpa using hv)
    unfold Addr.add
    split
    · next h0 => subst h0; simpa using this
    · exact this) (fun j hj => by
      have : j < 8 := by simp at hj; omega
      rcases j with _ | _ | _ | _ | _ | _ | _ | _ | j <;> first | (simp; done) | omega) (fun j hj => by simp) (oneCell_ints [a0, a1, a2, a3, a4, a5, a6])
  simp only [World.setCells, goInt] at hcp
  clear hs hI hc
  go_enter Tryz.func167, Tryz.ntmps167
  go_wp2_with fail
  (try simp only [Exit.inBlock, Exit.then]); refine bodyPost_ret (results_key _ _ (b := w.heap.size) (z0 := 7) (z1 := a0) (z2 := a1) (z3 := a2) (z4 := a3) (z5 := a4) (z6 := a5) (z7 := a6) (z8 := 0) rfl (by go_simp) (by go_simp) (by go_simp) (by go_simp) (by go_simp) (by go_simp) (by go_simp) (by go_simp) (by go_simp)) rfl ?_
  exact ⟨rfl, ((Below.refl _ _).alloc (Nat.le_refl _) _).alloc (by simp) _⟩

set_option maxRecDepth 100000 in
set_option maxHeartbeats 1600000 in
theorem keyOf_8 (A : Option Addr) (kc : Nat) (a0 a1 a2 a3 a4 a5 a6 a7 : Int) (w : World) (hA : Ints w A [a0, a1, a2, a3, a4, a5, a6, a7]) : Calls Tryz.prog 167 #[.slice A 8 kc] w (RetKey [a0, a1, a2, a3, a4, a5, a6, a7] w) := by
  obtain ⟨b, o, rfl, hc⟩ := hA.at (k := 0) (by simp)
  have hs := fun (W : World) => run_copy_cells (P := Tryz.prog) W 49 49 3 3 (w.heap.size + 1) 1 8 8 ⟨b, o, none⟩ 8 kc [.int .i64 a0, .int .i64 a1, .int .i64 a2, .int .i64 a3, .int .i64 a4, .int .i64 a5, .int .i64 a6, .int .i64 a7] Tryz.underlying49 info_int1 rfl
  have hI : Ints ((w.alloc (.cells #[.int .i64 0, .int .i64 0, .int .i64 0, .int .i64 0, .int .i64 0, .int .i64 0, .int .i64 0, .int .i64 0, .int .i64 0] 215)).alloc (.cells #[.int .i64 8, .int .i64 0, .int .i64 0, .int .i64 0, .int .i64 0, .int .i64 0, .int .i64 0, .int .i64 0, .int .i64 0] 215)) (some ⟨b, o, none⟩) [a0, a1, a2, a3, a4, a5, a6, a7] := Sl.alloc (Sl.alloc hA _) _
  have hcp := hs _ (fun j v hv => by
    obtain ⟨b', o', h1, h2⟩ := hI (by simp)
    injection h1 with h1
    injection h1 with h1 h3
    subst h1; subst h3
    have := h2 j v (by simpa using hv)
    unfold Addr.add
    split
    · next h0 => subst h0; simpa using this
    · exact this) (fun j hj => by
      have : j < 8 := by simp at hj; omega
      rcases j with _ | _ | _ | _ | _ | _ | _ | _ | j <;> first | (simp; done) | omega) (fun j hj => by simp) (oneCell_ints [a0, a1, a2, a3, a4, a5, a6, a7])
  simp only [World.setCells, goInt] at hcp
  clear hs hI hc
  go_enter Tryz.func167, Tryz.ntmps167
  go_wp2_with fail
  (try simp only [Exit.inBlock, Exit.then]); refine bodyPost_ret (results_key _ _ (b := w.heap.size) (z0 := 8) (z1 := a0) (z2 := a1) (z3 := a2) (z4 := a3) (z5 := a4) (z6 := a5) (z7 := a6) (z8 := a7) rfl (by go_simp) (by go_simp) (by go_simp) (by go_simp) (by go_simp) (by go_simp) (by go_simp) (by go_simp) (by go_simp)) rfl ?_
  exact ⟨rfl, ((Below.refl _ _).alloc (Nat.le_refl _) _).alloc (by simp) _⟩

theorem keyOf_any (A : Option Addr) (n kc : Nat) (zs : List Int) (w : World) (hA : Ints w A zs) (hn : zs.length = n) (h0 : 1 ≤ n) (h8 : n ≤ 8) : Calls Tryz.prog 167 #[.slice A n kc] w (RetKey zs w) := by
  subst hn
  match zs, h0, h8, hA with
  | [a0], _, _, hA => exact keyOf_1 A kc a0 w hA
  | [a0, a1], _, _, hA => exact keyOf_2 A kc a0 a1 w hA
  | [a0, a1, a2], _, _, hA => exact keyOf_3 A kc a0 a1 a2 w hA
  | [a0, a1, a2, a3], _, _, hA => exact keyOf_4 A kc a0 a1 a2 a3 w hA
  | [a0, a1, a2, a3, a4], _, _, hA => exact keyOf_5 A kc a0 a1 a2 a3 a4 w hA
  | [a0, a1, a2, a3, a4, a5], _, _, hA => exact keyOf_6 A kc a0 a1 a2 a3 a4 a5 w hA
  | [a0, a1, a2, a3, a4, a5, a6], _, _, hA => exact keyOf_7 A kc a0 a1 a2 a3 a4 a5 a6 w hA
  | [a0, a1, a2, a3, a4, a5, a6, a7], _, _, hA => exact keyOf_8 A kc a0 a1 a2 a3 a4 a5 a6 a7 w hA
  | _ :: _ :: _ :: _ :: _ :: _ :: _ :: _ :: _ :: _, _, h8, _ => simp at h8

end Go.Proofs.YtpfbnikbebccjaaGreatDoor
