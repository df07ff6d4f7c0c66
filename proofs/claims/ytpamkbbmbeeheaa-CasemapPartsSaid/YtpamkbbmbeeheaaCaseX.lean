/- The contract of casemap.context. Written by gen_casex.py. -/
import Derived.Test.YtpamkbbmbeeheaaCaseM
import Derived.RegionTactic
import Derived.ChangeAlike
import Derived.Deep.CutRange
import Derived.Deep.DeepCutAuto
import Derived.Laws.MakeOwn
import Derived.Outline
namespace Go.Proofs.Ytpamkbbmbeeheaa
open Go.RowKit Go.Maps Go.WideMaps

section
variable {P : Program} {ops : Array Oper} {Q : Exit → Act → World → Prop} {md : Region.Mode} {S : World → Prop}
/-- an operation that yields nothing and changes the world, the only one that may come up -/
theorem anyH_unit {i : Nat} {oi : Oper} {fuel : Nat} {listed : Array Bool} {a : Act} {w w' : World} (d : Option Tmp) (hi : ops[i]? = some oi) (hd : oi.dst = d)
    (hr : Region.ready md ops listed = [i]) (hw : Region.wanted oi (yielded ops a.tmps) = true) (he : (execOp a.eval oi).run P w = .ok .skip w') (hS : S w')
    (h : wpAnyH P md ops Q S fuel (listed.setIfInBounds i true) (a.put d undef) w') : wpAnyH P md ops Q S (fuel + 1) listed a w := by
  subst hd
  refine anyH_do hi hr hw (fun K hK => ?_)
  unfold Oper.wp
  rw [he]
  simp only [Oper.upon]
  exact hK.out _ _ hS (fun _ => h)
end
/-- n booleans -/
def tabV (n : Nat) (f : Nat → Bool) : List Value := (List.range n).map (fun j => Value.bool (f j))
theorem tabV_get {n : Nat} (f : Nat → Bool) {i : Nat} (h : i < n) : (tabV n f)[i]? = some (.bool (f i)) := by simp [tabV, h]
theorem tabV_len (n : Nat) (f : Nat → Bool) : (tabV n f).length = n := by simp [tabV]
theorem tabV_ext {n : Nat} {f g : Nat → Bool} (h : ∀ j, j < n → f j = g j) : tabV n f = tabV n g := by
  unfold tabV
  refine List.map_congr_left fun j hj => ?_
  rw [h j (List.mem_range.1 hj)]
theorem tabV_set {n : Nat} {f g : Nat → Bool} {i : Nat} (x : Bool) (hx : g i = x) (h : ∀ j, j < n → j ≠ i → f j = g j) : (tabV n f).set i (.bool x) = tabV n g := by
  refine List.ext_getElem? fun j => ?_
  rw [List.getElem?_set]
  by_cases hj : j < n
  · by_cases e : i = j
    · subst e
      rw [if_pos rfl, if_pos (by rw [tabV_len]; exact hj), tabV_get g hj, hx]
    · rw [if_neg e, tabV_get f hj, tabV_get g hj, h j hj (fun a => e a.symm)]
  · have l1 : (tabV n f)[j]? = none := List.getElem?_eq_none (by rw [tabV_len]; omega)
    have l2 : (tabV n g)[j]? = none := List.getElem?_eq_none (by rw [tabV_len]; omega)
    rw [l1, l2, tabV_len]
    split
    · rw [if_neg (by omega)]
    · rfl
theorem tabV_map (n : Nat) (f : Nat → Bool) : ((List.range n).map f).map Value.bool = tabV n f := by unfold tabV; rw [List.map_map]; rfl

theorem info_bool : (Try.prog.info? 4).map (fun i => (i.zero, i.size, i.bytes)) = some (some (.bool false), 1, 1) := by kernel_rfl
theorem made_falses (n : Nat) : madeCells (Value.bool false).cells n = (tabV n (fun _ => false)).toArray := by
  apply Array.ext
  · simp [madeCells, tabV]
  · intro i h1 h2
    simp [madeCells, tabV, Value.cells, Nat.mod_one]
theorem mk_bools (n : Nat) (hn : n ≤ 1048576) (W : World) : (Instr.makeSlice 55 (.int .i64 n) (.int .i64 n)).run Try.prog W = .ok (.slice (some ⟨W.heap.size, 0, none⟩) n n) (W.alloc (.cells (tabV n (fun _ => false)).toArray 4)) := by
  obtain ⟨i, hi, hz, hsize, hbytes⟩ := info_parts info_bool
  have := run_make (P := Try.prog) W 55 4 i (.bool false) Try.underlying55 hi hz .i64 .i64 n n (by omega) (by omega) (by rw [hbytes]; omega) (by omega)
  rw [this, hsize]
  simp only [Int.toNat_natCast, Nat.mul_one, made_falses]

/-- the memory of context -/
structure CtxA (w0 : World) (N n : Nat) (vs : List Value) (bC bF : Nat) (w : World) (cf ff : Nat → Bool) : Prop where
  ne : (bC = N + 2 ∧ bF = N + 3) ∨ (bC = N + 3 ∧ bF = N + 2)
  case : Box w N 27 vs
  x4 : Box w (N + 1) 55 [.slice (some ⟨bC, 0, none⟩) n n]
  cb : Box w bC 4 (tabV n cf)
  fb : Box w bF 4 (tabV n ff)
  sz : N + 4 ≤ w.heap.size
  lo : Below N w0 w
structure Ctx (w0 : World) (N n : Nat) (vs : List Value) (bC bF p : Nat) (w : World) (cf pf ff : Nat → Bool) : Prop where
  a : CtxA w0 N n vs bC bF w cf ff
  x6 : Box w (p + 1) 55 [.slice (some ⟨p, 0, none⟩) n n]
  pb : Box w p 4 (tabV n pf)
  hp : N + 4 ≤ p
section
variable {w0 : World} {N n : Nat} {vs : List Value} {bC bF p : Nat} {w w' : World} {cf pf ff : Nat → Bool}
theorem CtxA.below (h : CtxA w0 N n vs bC bF w cf ff) (hb : Below w.heap.size w w') : CtxA w0 N n vs bC bF w' cf ff := by
  have := h.sz
  have := h.ne
  exact ⟨h.ne, h.case.below hb (by omega), h.x4.below hb (by omega), h.cb.below hb (by omega), h.fb.below hb (by omega), Nat.le_trans h.sz hb.size, h.lo.trans (hb.mono (by omega))⟩
theorem CtxA.grown {r : Nat} (h : CtxA w0 N n vs bC bF w cf ff) (hg : w.grownBy w' (some r)) (hr : N + 4 ≤ r) : CtxA w0 N n vs bC bF w' cf ff := by
  have := h.sz
  have := h.ne
  have f : ∀ b, b < N + 4 → some b ≠ some r := fun b hb e => by injection e; omega
  exact ⟨h.ne, h.case.grown hg (f _ (by omega)), h.x4.grown hg (f _ (by omega)), h.cb.grown hg (f _ (by omega)), h.fb.grown hg (f _ (by omega)), Nat.le_trans h.sz hg.size, below_grown h.lo hg (by omega) (by omega)⟩
theorem Ctx.below (h : Ctx w0 N n vs bC bF p w cf pf ff) (hb : Below w.heap.size w w') : Ctx w0 N n vs bC bF p w' cf pf ff :=
  ⟨h.a.below hb, h.x6.below hb h.x6.lt, h.pb.below hb h.pb.lt, h.hp⟩
theorem Ctx.setC (h : Ctx w0 N n vs bC bF p w cf pf ff) {i : Nat} (x : Bool) {g : Nat → Bool} (hx : g i = x) (hg : ∀ j, j < n → j ≠ i → cf j = g j) : Ctx w0 N n vs bC bF p (w.setCell ⟨bC, i, none⟩ (.bool x)) g pf ff := by
  have hs := h.a.sz
  have hn := h.a.ne
  have f : ∀ b, b ≠ bC → some b ≠ some (⟨bC, i, none⟩ : Addr).block := fun b hb e => hb (by injection e)
  have gr := grown_set w ⟨bC, i, none⟩ (.bool x)
  refine ⟨⟨hn, h.a.case.grown gr (f _ (by omega)), h.a.x4.grown gr (f _ (by omega)), ?_, h.a.fb.grown gr (f _ (by omega)), Nat.le_trans h.a.sz gr.size, h.a.lo.setCell (by show N ≤ bC; omega) _⟩, h.x6.grown gr (f _ (by have := h.hp; omega)), h.pb.grown gr (f _ (by have := h.hp; omega)), h.hp⟩
  rw [← tabV_set x hx hg]
  exact h.a.cb.set i (.bool x)
theorem Ctx.setF (h : Ctx w0 N n vs bC bF p w cf pf ff) {i : Nat} (x : Bool) {g : Nat → Bool} (hx : g i = x) (hg : ∀ j, j < n → j ≠ i → ff j = g j) : Ctx w0 N n vs bC bF p (w.setCell ⟨bF, i, none⟩ (.bool x)) cf pf g := by
  have hs := h.a.sz
  have hn := h.a.ne
  have f : ∀ b, b ≠ bF → some b ≠ some (⟨bF, i, none⟩ : Addr).block := fun b hb e => hb (by injection e)
  have gr := grown_set w ⟨bF, i, none⟩ (.bool x)
  refine ⟨⟨hn, h.a.case.grown gr (f _ (by omega)), h.a.x4.grown gr (f _ (by omega)), h.a.cb.grown gr (f _ (by omega)), ?_, Nat.le_trans h.a.sz gr.size, h.a.lo.setCell (by show N ≤ bF; omega) _⟩, h.x6.grown gr (f _ (by have := h.hp; omega)), h.pb.grown gr (f _ (by have := h.hp; omega)), h.hp⟩
  rw [← tabV_set x hx hg]
  exact h.a.fb.set i (.bool x)
theorem Ctx.setP (h : Ctx w0 N n vs bC bF p w cf pf ff) {i : Nat} (x : Bool) {g : Nat → Bool} (hx : g i = x) (hg : ∀ j, j < n → j ≠ i → pf j = g j) : Ctx w0 N n vs bC bF p (w.setCell ⟨p, i, none⟩ (.bool x)) cf g ff := by
  have gr := grown_set w ⟨p, i, none⟩ (.bool x)
  refine ⟨h.a.grown gr h.hp, h.x6.grown gr (by simp), ?_, h.hp⟩
  rw [← tabV_set x hx hg]
  exact h.pb.set i (.bool x)
theorem Ctx.ext (h : Ctx w0 N n vs bC bF p w cf pf ff) {cf' pf' ff' : Nat → Bool} (h1 : ∀ j, j < n → cf j = cf' j) (h2 : ∀ j, j < n → pf j = pf' j) (h3 : ∀ j, j < n → ff j = ff' j) : Ctx w0 N n vs bC bF p w cf' pf' ff' := by
  obtain ⟨⟨a1, a2, a3, a4, a5, a6, a7⟩, b1, b2, b3⟩ := h
  rw [tabV_ext h1] at a4
  rw [tabV_ext h3] at a5
  rw [tabV_ext h2] at b2
  exact ⟨⟨a1, a2, a3, a4, a5, a6, a7⟩, b1, b2, b3⟩
/-- the closure near it -/
theorem Ctx.visit (h : Ctx w0 N n vs bC bF p w cf pf ff) {q : Nat} (hq : p + 2 ≤ q) {x : Bool} (hx : Box w q 4 [.bool x]) {i : Nat} (hi : i < n) :
    Calls Try.prog 67 #[.int .i64 i, .pointer (some ⟨q, 0, none⟩), .pointer (some ⟨p + 1, 0, none⟩), .pointer (some ⟨N + 1, 0, none⟩)] w (fun e w' => e = .returned (.bool x) ∧ Ctx w0 N n vs bC bF p w' cf pf ff ∧ Box w' q 4 [.bool (if pf i = true then x else cf i)]) := by
  refine (visit_any q (p + 1) (N + 1) p bC n i x ((List.range n).map pf) ((List.range n).map cf) w hx h.x6 h.a.x4 (by rw [tabV_map]; exact h.pb) (by rw [tabV_map]; exact h.a.cb) (by simp) (by simp) hi).mono ?_
  rintro e w' ⟨rfl, hg, hB⟩
  have hp := h.hp
  have f : ∀ b, b < q → some b ≠ some q := fun b hb e => by injection e; omega
  refine ⟨rfl, ⟨h.a.grown hg (by omega), h.x6.grown hg (f _ (by omega)), h.pb.grown hg (f _ (by omega)), hp⟩, ?_⟩
  have e1 : ((List.range n).map pf).getD i false = pf i := by simp [hi]
  have e2 : ((List.range n).map cf).getD i false = cf i := by simp [hi]
  rw [e1, e2] at hB
  exact hB
end
/-- the number before k -/
def dn : Nat → Int
  | 0 => -1
  | m + 1 => m
theorem dn_eq (k : Nat) : dn k = (k : Int) - 1 := by cases k <;> simp [dn]
theorem Box.alloc {w : World} {b : Nat} {t : TypeId} {cs : List Value} (h : Box w b t cs) (o : Obj) : Box (w.alloc o) b t cs := h.below ((Below.refl _ _).alloc (Nat.le_refl _) o) h.lt
theorem Box.drew {w : World} {b : Nat} {t : TypeId} {cs : List Value} (h : Box w b t cs) : Box w.drew b t cs := h
def RetCtx (C : Cse) (t : List Int) (w : World) (e : Ending) (w' : World) : Prop :=
  ∃ bC bF, e = .returned (.tuple #[.slice (some ⟨bC, 0, none⟩) t.length t.length, .slice (some ⟨bF, 0, none⟩) t.length t.length]) ∧ Box w' bC 4 (tabV t.length (fun j => hasR C.cased (t.getD j 0))) ∧ Box w' bF 4 (tabV t.length (finC C t)) ∧ w.heap.size ≤ bC ∧ w.heap.size ≤ bF ∧ Below w.heap.size w w'
theorem results_context_any (tmps : Array Value) (w : World) {b : Nat} {v0 v1 : Value} (ha : tmps.getD 4 undef = .pointer (some ⟨b, 0, none⟩)) (hb : tmps.getD 5 undef = v1)
    (c0 : w.cell? ⟨b, 0, none⟩ = some v0) :
    (results Try.f37 tmps).run Try.prog w = .ok (.tuple #[v0, v1]) w := by
  have hr : Try.f37.results = #[.cell 4 55, .tmp 5] := rfl
  unfold results
  rw [hr]
  simp only [ha, hb, List.mapM_toArray, List.mapM_cons, List.mapM_nil, asAddr]
  go_simp

set_option maxRecDepth 100000 in
set_option maxHeartbeats 12800000 in
theorem context_any (v0 v1 v2 v3 v4 v5 : Value) (C : Cse) (A : Option Addr) (n a : Nat) (t : List Int) (w : World) (h : CaseAt w v0 v1 v2 v3 v4 v5 C) (hz : CaseSz C) (hA : Ints w A t) (hn : t.length = n) (hb : n ≤ 1048576) :
    Calls Try.prog 37 #[.agg #[v0, v1, v2, v3, v4, v5], .slice A n a] w (RetCtx C t w) := by
  obtain ⟨A0, n0, c0, rfl⟩ := h.lower.sl
  obtain ⟨A1, n1, c1, rfl⟩ := h.upper.sl
  obtain ⟨A2, n2, c2, rfl⟩ := h.title.sl
  obtain ⟨A3, n3, c3, rfl⟩ := h.fold.sl
  obtain ⟨A4, c4, rfl, hc4, h4⟩ := h.cased
  obtain ⟨A5, c5, rfl, hc5, h5⟩ := h.ign
  subst hn
  have z4 := hz.cased
  have z5 := hz.ign
  have mk := mk_bools t.length hb
  have H4 := Lib.hid (fun W x (hb : Below w.heap.size w W) => cpHas_any A4 C.cased.length c4 C.cased x W (h4.below hb) rfl (by omega))
  have H5 := Lib.hid (fun W x (hb : Below w.heap.size w W) => cpHas_any A5 C.ign.length c5 C.ign x W (h5.below hb) rfl (by omega))
  have HA := Lib.hid hA
  have NU := Lib.hid (fun i hi => nearC_up C (t := t) (i := i) hi)
  have ND := Lib.hid (fun i hi => nearC_down C (t := t) (i := i) hi)
  have GD := Lib.hid (fun i hi => getD_at (t := t) (i := i) hi)
  have FN := Lib.hid (fun i => show finC C t i = (nearC C (t.take i).reverse && !nearC C (t.drop (i + 1))) from rfl)
  have N0 := Lib.hid (show nearC C (t.take 0).reverse = false from rfl)
  have N1 := Lib.hid (show nearC C (t.drop t.length) = false by rw [List.drop_length]; rfl)
  clear h hz h4 h5 hA hc4 hc5 z4 z5
  go_enter Try.func37, Try.ntmps37
  go_upto_region 1 with fail
  go_cut [5] (fun s5 wx => ∃ (bC bF : Nat), s5 = .slice (some ⟨bF, 0, none⟩) t.length t.length ∧ wx.heap.size = w.heap.size + 4 ∧ CtxA w w.heap.size t.length [.slice A0 n0 c0, .slice A1 n1 c1, .slice A2 n2 c2, .slice A3 n3 c3, .slice A4 C.cased.length c4, .slice A5 C.ign.length c5] bC bF wx (fun _ => false) (fun _ => false))
  case first =>
    go_region
    · go_wp2_with fail
      go_meet
      refine ⟨w.heap.size + 2, w.heap.size + 3, rfl, by simp, ⟨.inl ⟨rfl, rfl⟩, ?_, ?_, ?_, ?_, by simp, ?_⟩⟩
      · exact ((((Box.new w 27 [.slice A0 n0 c0, .slice A1 n1 c1, .slice A2 n2 c2, .slice A3 n3 c3, .slice A4 C.cased.length c4, .slice A5 C.ign.length c5] rfl).alloc _).alloc _).alloc _).drew
      · exact (((Box.new _ 55 [.slice (some ⟨w.heap.size + 2, 0, none⟩) t.length t.length] (by simp)).alloc _).alloc _).drew
      · exact ((Box.new _ 4 (tabV t.length fun _ => false) (by simp)).alloc _).drew
      · exact (Box.new _ 4 (tabV t.length fun _ => false) (by simp)).drew
      · exact (((((Below.refl _ w).alloc (Nat.le_refl _) _).alloc (by simp) _).alloc (by simp; omega) _).alloc (by simp; omega) _).drew
    · go_wp2_with fail
      go_meet
      refine ⟨w.heap.size + 3, w.heap.size + 2, rfl, by simp, ⟨.inr ⟨rfl, rfl⟩, ?_, ?_, ?_, ?_, by simp, ?_⟩⟩
      · exact ((((Box.new w 27 [.slice A0 n0 c0, .slice A1 n1 c1, .slice A2 n2 c2, .slice A3 n3 c3, .slice A4 C.cased.length c4, .slice A5 C.ign.length c5] rfl).alloc _).alloc _).alloc _).drew
      · exact (((Box.new _ 55 [.slice (some ⟨w.heap.size + 3, 0, none⟩) t.length t.length] (by simp)).alloc _).alloc _).drew
      · exact (Box.new _ 4 (tabV t.length fun _ => false) (by simp)).drew
      · exact ((Box.new _ 4 (tabV t.length fun _ => false) (by simp)).alloc _).drew
      · exact (((((Below.refl _ w).alloc (Nat.le_refl _) _).alloc (by simp) _).alloc (by simp; omega) _).alloc (by simp; omega) _).drew
  case rest =>
    obtain ⟨bC, bF, rfl, hsz, hCA⟩ := hcut
    have HCA := Lib.hid hCA
    have HSZ := Lib.hid hsz
    have hg1 : w.heap.size + 4 ≤ wc.heap.size := hCA.sz
    clear hCA hsz mk
    have mk := mk_bools t.length hb
    have HCX := Lib.hid (show Ctx w w.heap.size t.length [.slice A0 n0 c0, .slice A1 n1 c1, .slice A2 n2 c2, .slice A3 n3 c3, .slice A4 C.cased.length c4, .slice A5 C.ign.length c5] bC bF wc.heap.size ((wc.alloc (.cells (tabV t.length (fun _ => false)).toArray 4)).alloc (.cells #[.slice (some ⟨wc.heap.size, 0, none⟩) t.length t.length] 55)) (fun _ => false) (fun _ => false) (fun _ => false) from
      ⟨(HCA.out.below ((Below.refl _ _).alloc (Nat.le_refl _) _)).below ((Below.refl _ _).alloc (Nat.le_refl _) _), Box.new _ 55 [.slice (some ⟨wc.heap.size, 0, none⟩) t.length t.length] (by simp), (Box.new _ 4 (tabV t.length fun _ => false) rfl).alloc _, hg1⟩)
    have WdE : ∃ Wd, ((wc.alloc (.cells (tabV t.length (fun _ => false)).toArray 4)).alloc (.cells #[.slice (some ⟨wc.heap.size, 0, none⟩) t.length t.length] 55)) = Wd := ⟨_, rfl⟩
    go_wp2_with fail
    obtain ⟨Wd, hWd⟩ := WdE
    rw [hWd] at HCX ⊢
    clear hWd
    generalize wc.heap.size = p at *
    clear HCA HSZ mk
    go_loopw [7, 8, 24] (fun _ _ u wr => ∃ i : Nat, i ≤ t.length ∧ u = .int .i64 i ∧ Ctx w w.heap.size t.length [.slice A0 n0 c0, .slice A1 n1 c1, .slice A2 n2 c2, .slice A3 n3 c3, .slice A4 C.cased.length c4, .slice A5 C.ign.length c5] bC bF p wr (fun j => decide (j < i) && hasR C.cased (t.getD j 0)) (fun j => decide (j < i) && hasR C.ign (t.getD j 0)) (fun _ => false)) (fun _ _ u _ => t.length - (intOf u).toNat)
    case atStart => exact ⟨0, Nat.zero_le _, rfl, HCX.out.ext (fun j _ => by simp) (fun j _ => by simp) (fun j _ => rfl)⟩
    case round =>
      obtain ⟨i, hi, rfl, hX⟩ := hrel
      have HX := Lib.hid hX
      clear HCX hX
      by_cases hlt : i < t.length
      · obtain ⟨b1, o1, rfl, hcell⟩ := (HA.out.below HX.out.a.lo).at hlt
        have d0 := hcell i hlt
        have ci0 : (0 : Int) ≤ i := by omega
        have ci1 : (i : Int) < t.length := by omega
        have GDi := Lib.hid (GD.out i hlt)
        clear hcell
        generalize t[i] = ti at *
        have K4 := Lib.hid (H4.out wr.drew ti HX.out.a.lo.drew)
        generalize hq4 : hasR C.cased ti = q4 at *
        have Q4 := Lib.hid hq4
        clear hq4
        have S0 : wr.drew.cell? ⟨w.heap.size + 1, 0, none⟩ = some (.slice (some ⟨bC, 0, none⟩) t.length t.length) ∧ wr.drew.cell? ⟨w.heap.size, 4, none⟩ = some (.slice A4 C.cased.length c4) := ⟨HX.out.a.x4.drew.cell (i := 0) rfl, HX.out.a.case.drew.cell (i := 4) rfl⟩
        have S0H := Lib.hid S0
        clear S0
        go_wp2_with fail
        refine wp_region_held_drew (S := fun W' => W'.cell? ⟨w.heap.size + 1, 0, none⟩ = some (.slice (some ⟨bC, 0, none⟩) t.length t.length) ∧ W'.cell? ⟨w.heap.size, 4, none⟩ = some (.slice A4 C.cased.length c4)) (by kernel_rfl) S0H.out (fun hHeld => ?_)
        refine anyH_take (i := 0) (v := ?_) (some 29) rfl rfl (by kernel_rfl) (by kernel_rfl) (by kernel_rfl) (fun _ _ _ h => h) (by rfl) (by assumption) ?_ ?_
        rotate_left
        · intro w hSw; (try dsimp only at hSw); go_split_ands; go_simp; try (with_reducible rfl)
        try simp only [Act.put, List.setIfInBounds_toArray, List.set_cons_zero, List.set_cons_succ]
        refine anyH_take (i := 1) (v := ?_) (some 30) rfl rfl (by kernel_rfl) (by kernel_rfl) (by kernel_rfl) (fun _ _ _ h => h) (by rfl) (by assumption) ?_ ?_
        rotate_left
        · intro w hSw; (try dsimp only at hSw); go_split_ands; go_simp; try (with_reducible rfl)
        try simp only [Act.put, List.setIfInBounds_toArray, List.set_cons_zero, List.set_cons_succ]
        refine anyH_take (i := 2) (v := ?_) (some 31) rfl rfl (by kernel_rfl) (by kernel_rfl) (by kernel_rfl) (fun _ _ _ h => h) (by rfl) (by assumption) ?_ ?_
        rotate_left
        · intro w hSw; (try dsimp only at hSw); go_split_ands; go_simp; try (with_reducible rfl)
        try simp only [Act.put, List.setIfInBounds_toArray, List.set_cons_zero, List.set_cons_succ]
        refine anyH_take (i := 3) (v := ?_) (some 32) rfl rfl (by kernel_rfl) (by kernel_rfl) (by kernel_rfl) (fun _ _ _ h => h) (by rfl) (by assumption) ?_ ?_
        rotate_left
        · intro w hSw; (try dsimp only at hSw); go_split_ands; go_simp; try (with_reducible rfl)
        try simp only [Act.put, List.setIfInBounds_toArray, List.set_cons_zero, List.set_cons_succ]
        refine anyH_take (i := 4) (v := ?_) (some 33) rfl rfl (by kernel_rfl) (by kernel_rfl) (by kernel_rfl) (fun _ _ _ h => h) (by rfl) (by assumption) ?_ ?_
        rotate_left
        · intro w hSw; (try dsimp only at hSw); go_split_ands; go_simp; try (with_reducible rfl)
        try simp only [Act.put, List.setIfInBounds_toArray, List.set_cons_zero, List.set_cons_succ]
        refine anyH_callR (R := fun W' => Ctx w w.heap.size t.length [.slice A0 n0 c0, .slice A1 n1 c1, .slice A2 n2 c2, .slice A3 n3 c3, .slice A4 C.cased.length c4, .slice A5 C.ign.length c5] bC bF p W' (fun j => decide (j < i) && hasR C.cased (t.getD j 0)) (fun j => decide (j < i) && hasR C.ign (t.getD j 0)) (fun _ => false)) (i := 5) (some 34) rfl rfl (by kernel_rfl) (by rfl) (by go_simp) (K4.out.mono (fun e W' hh => ⟨hh.1, ⟨(HX.out.a.below (Below.drew (Below.refl _ _))).below hh.2 |>.x4.cell (i := 0) rfl, (HX.out.a.below (Below.drew (Below.refl _ _))).below hh.2 |>.case.cell (i := 4) rfl⟩, (HX.out.below (Below.drew (Below.refl _ _))).below hh.2⟩)) (fun W3 hS6 hR6 => ?_)
        clear hHeld
        have hHeld := hS6
        clear hS6
        try simp only [Act.put, List.setIfInBounds_toArray, List.set_cons_zero, List.set_cons_succ]
        refine anyH_take (i := 6) (v := ?_) (some 35) rfl rfl (by kernel_rfl) (by kernel_rfl) (by kernel_rfl) (fun _ _ _ h => h) (by rfl) (by assumption) ?_ ?_
        rotate_left
        · intro w hSw; (try dsimp only at hSw); go_split_ands; go_simp; try (with_reducible rfl)
        try simp only [Act.put, List.setIfInBounds_toArray, List.set_cons_zero, List.set_cons_succ]
        have g0 := hR6.a.cb.cell (i := i) (tabV_get _ hlt)
        have g1 := hR6.a.cb.free i
        have HR7 := Lib.hid (hR6.setC (i := i) q4 (g := fun j => decide (j < i + 1) && hasR C.cased (t.getD j 0)) (by rw [GDi.out, Q4.out]; simp) (fun j _ hj => by rw [show decide (j < i + 1) = decide (j < i) by rw [decide_eq_decide]; omega]))
        refine anyH_unit (w' := W3.setCell ⟨bC, i, none⟩ (.bool q4)) (i := 7) none rfl rfl (by kernel_rfl) (by rfl) (by go_simp) ⟨HR7.out.a.x4.cell (i := 0) rfl, HR7.out.a.case.cell (i := 4) rfl⟩ ?_
        refine wpAnyH_done (by kernel_rfl) ?_ _
        clear g0 g1 hHeld S0H K4 hR6
        generalize W3.setCell ⟨bC, i, none⟩ (.bool q4) = W4 at *
        have HX := HR7
        clear HR7
        have K5 := Lib.hid (H5.out W4.drew ti HX.out.a.lo.drew)
        generalize hq5 : hasR C.ign ti = q5 at *
        have Q5 := Lib.hid hq5
        clear hq5
        have S1H := Lib.hid (show W4.drew.cell? ⟨p + 1, 0, none⟩ = some (.slice (some ⟨p, 0, none⟩) t.length t.length) ∧ W4.drew.cell? ⟨w.heap.size, 5, none⟩ = some (.slice A5 C.ign.length c5) from ⟨HX.out.x6.drew.cell (i := 0) rfl, HX.out.a.case.drew.cell (i := 5) rfl⟩)
        go_wp2_with fail
        refine wp_region_held_drew (S := fun W' => W'.cell? ⟨p + 1, 0, none⟩ = some (.slice (some ⟨p, 0, none⟩) t.length t.length) ∧ W'.cell? ⟨w.heap.size, 5, none⟩ = some (.slice A5 C.ign.length c5)) (by kernel_rfl) S1H.out (fun hHeld => ?_)
        refine anyH_take (i := 0) (v := ?_) (some 36) rfl rfl (by kernel_rfl) (by kernel_rfl) (by kernel_rfl) (fun _ _ _ h => h) (by rfl) (by assumption) ?_ ?_
        rotate_left
        · intro w hSw; (try dsimp only at hSw); go_split_ands; go_simp; try (with_reducible rfl)
        try simp only [Act.put, List.setIfInBounds_toArray, List.set_cons_zero, List.set_cons_succ]
        refine anyH_take (i := 1) (v := ?_) (some 37) rfl rfl (by kernel_rfl) (by kernel_rfl) (by kernel_rfl) (fun _ _ _ h => h) (by rfl) (by assumption) ?_ ?_
        rotate_left
        · intro w hSw; (try dsimp only at hSw); go_split_ands; go_simp; try (with_reducible rfl)
        try simp only [Act.put, List.setIfInBounds_toArray, List.set_cons_zero, List.set_cons_succ]
        refine anyH_take (i := 2) (v := ?_) (some 38) rfl rfl (by kernel_rfl) (by kernel_rfl) (by kernel_rfl) (fun _ _ _ h => h) (by rfl) (by assumption) ?_ ?_
        rotate_left
        · intro w hSw; (try dsimp only at hSw); go_split_ands; go_simp; try (with_reducible rfl)
        try simp only [Act.put, List.setIfInBounds_toArray, List.set_cons_zero, List.set_cons_succ]
        refine anyH_take (i := 3) (v := ?_) (some 39) rfl rfl (by kernel_rfl) (by kernel_rfl) (by kernel_rfl) (fun _ _ _ h => h) (by rfl) (by assumption) ?_ ?_
        rotate_left
        · intro w hSw; (try dsimp only at hSw); go_split_ands; go_simp; try (with_reducible rfl)
        try simp only [Act.put, List.setIfInBounds_toArray, List.set_cons_zero, List.set_cons_succ]
        refine anyH_take (i := 4) (v := ?_) (some 40) rfl rfl (by kernel_rfl) (by kernel_rfl) (by kernel_rfl) (fun _ _ _ h => h) (by rfl) (by assumption) ?_ ?_
        rotate_left
        · intro w hSw; (try dsimp only at hSw); go_split_ands; go_simp; try (with_reducible rfl)
        try simp only [Act.put, List.setIfInBounds_toArray, List.set_cons_zero, List.set_cons_succ]
        refine anyH_callR (R := fun W' => Ctx w w.heap.size t.length [.slice A0 n0 c0, .slice A1 n1 c1, .slice A2 n2 c2, .slice A3 n3 c3, .slice A4 C.cased.length c4, .slice A5 C.ign.length c5] bC bF p W' (fun j => decide (j < i + 1) && hasR C.cased (t.getD j 0)) (fun j => decide (j < i) && hasR C.ign (t.getD j 0)) (fun _ => false)) (i := 5) (some 41) rfl rfl (by kernel_rfl) (by rfl) (by go_simp) (K5.out.mono (fun e W' hh => ⟨hh.1, ⟨(HX.out.below (Below.drew (Below.refl _ _))).below hh.2 |>.x6.cell (i := 0) rfl, (HX.out.a.below (Below.drew (Below.refl _ _))).below hh.2 |>.case.cell (i := 5) rfl⟩, (HX.out.below (Below.drew (Below.refl _ _))).below hh.2⟩)) (fun W5 hS6 hR6 => ?_)
        clear hHeld
        have hHeld := hS6
        clear hS6
        try simp only [Act.put, List.setIfInBounds_toArray, List.set_cons_zero, List.set_cons_succ]
        refine anyH_take (i := 6) (v := ?_) (some 42) rfl rfl (by kernel_rfl) (by kernel_rfl) (by kernel_rfl) (fun _ _ _ h => h) (by rfl) (by assumption) ?_ ?_
        rotate_left
        · intro w hSw; (try dsimp only at hSw); go_split_ands; go_simp; try (with_reducible rfl)
        try simp only [Act.put, List.setIfInBounds_toArray, List.set_cons_zero, List.set_cons_succ]
        have g0 := hR6.pb.cell (i := i) (tabV_get _ hlt)
        have g1 := hR6.pb.free i
        have HR7 := Lib.hid (hR6.setP (i := i) q5 (g := fun j => decide (j < i + 1) && hasR C.ign (t.getD j 0)) (by rw [GDi.out, Q5.out]; simp) (fun j _ hj => by rw [show decide (j < i + 1) = decide (j < i) by rw [decide_eq_decide]; omega]))
        refine anyH_unit (w' := W5.setCell ⟨p, i, none⟩ (.bool q5)) (i := 7) none rfl rfl (by kernel_rfl) (by rfl) (by go_simp) ⟨HR7.out.x6.cell (i := 0) rfl, HR7.out.a.case.cell (i := 5) rfl⟩ ?_
        refine wpAnyH_done (by kernel_rfl) ?_ _
        clear g0 g1 hHeld S1H K5 hR6
        generalize W5.setCell ⟨p, i, none⟩ (.bool q5) = W6 at *
        clear HX
        go_wp2_with fail
        go_roundw
        case rel => exact ⟨i + 1, by omega, by go_num, HR7.out⟩
        case measure => simp [intOf]; omega
      · have HY := Lib.hid (HX.out.ext (cf' := fun j => hasR C.cased (t.getD j 0)) (pf' := fun j => hasR C.ign (t.getD j 0)) (ff' := fun _ => false) (fun j hj => by simp; omega) (fun j hj => by simp; omega) (fun _ _ => rfl))
        have Ba : Below wr.heap.size wr (wr.alloc (.cells #[.bool false] 4)) := (Below.refl _ _).alloc (Nat.le_refl _) _
        have HB := Lib.hid (Box.new wr 4 [.bool false] rfl)
        have HZ := Lib.hid (HY.out.below Ba)
        have WeE : ∃ We, wr.alloc (.cells #[.bool false] 4) = We := ⟨_, rfl⟩
        have hq : p + 2 ≤ wr.heap.size := HX.out.x6.lt
        clear HX HY H4 H5 HA Ba
        go_wp2_with fail
        obtain ⟨We, hWe⟩ := WeE
        have HB2 := HB
        rw [hWe] at HB2 HZ ⊢
        clear hWe HB
        generalize wr.heap.size = q at *
        clear hlt hi
        go_loopw [11, 47] (fun _ u wr => ∃ i : Nat, i ≤ t.length ∧ u = .int .i64 i ∧ Ctx w w.heap.size t.length [.slice A0 n0 c0, .slice A1 n1 c1, .slice A2 n2 c2, .slice A3 n3 c3, .slice A4 C.cased.length c4, .slice A5 C.ign.length c5] bC bF p wr (fun j => hasR C.cased (t.getD j 0)) (fun j => hasR C.ign (t.getD j 0)) (fun j => decide (j < i) && nearC C (t.take j).reverse) ∧ Box wr q 4 [.bool (nearC C (t.take i).reverse)]) (fun _ u _ => t.length - (intOf u).toNat)
        case atStart => exact ⟨0, Nat.zero_le _, rfl, HZ.out.ext (fun _ _ => rfl) (fun _ _ => rfl) (fun j _ => by simp), by rw [N0.out]; exact HB2.out⟩
        case round =>
          obtain ⟨i, hi, rfl, hX, hB⟩ := hrel
          clear HZ HB2
          by_cases hlt : i < t.length
          · have VC := Lib.hid (hX.visit hq hB hlt)
            have NUi := Lib.hid (NU.out i hlt)
            have GDi := Lib.hid (GD.out i hlt)
            have ci0 : (0 : Int) ≤ i := by omega
            have ci1 : (i : Int) < t.length := by omega
            clear hX hB
            generalize hnx : nearC C (t.take i).reverse = x at *
            have HNX := Lib.hid hnx
            clear hnx
            go_wp2_with fail
            with_reducible refine VC.out.mono ?_
            rintro e W1 ⟨rfl, hX1, hB1⟩
            have g0 := hX1.a.fb.cell (i := i) (tabV_get _ hlt)
            have g1 := hX1.a.fb.free i
            have gl := hX1.a.fb.lt
            have hbf : bF ≠ q := by have := hX1.a.ne; have := hX1.hp; omega
            have HX2 := Lib.hid (hX1.setF (i := i) x (g := fun j => decide (j < i + 1) && nearC C (t.take j).reverse) (by rw [HNX.out]; simp) (fun j _ hj => by rw [show decide (j < i + 1) = decide (j < i) by rw [decide_eq_decide]; omega]))
            have HB3 := Lib.hid ((show (if hasR C.ign (t.getD i 0) = true then x else hasR C.cased (t.getD i 0)) = nearC C (t.take (i + 1)).reverse by rw [NUi.out, GDi.out]) ▸ (hB1.grown (grown_set W1 ⟨bF, i, none⟩ (.bool x)) (fun e => hbf (by injection e with e; exact e.symm))))
            clear hX1 hB1 VC hbf
            go_wp2_with fail
            go_roundw
            case rel => exact ⟨i + 1, by omega, by go_num, HX2.out, HB3.out⟩
            case measure => simp [intOf]; omega
          · have HX2 := Lib.hid (hX.ext (cf' := fun j => hasR C.cased (t.getD j 0)) (pf' := fun j => hasR C.ign (t.getD j 0)) (ff' := fun j => if j < t.length then nearC C (t.take j).reverse else finC C t j) (fun _ _ => rfl) (fun _ _ => rfl) (fun j hj => by rw [if_pos hj, show decide (j < i) = true by simp; omega, Bool.true_and]))
            have g0 := hB.cell (i := 0) rfl
            have g1 := hB.free 0
            have gl := hB.lt
            have gr := grown_set wr ⟨q, 0, none⟩ (.bool false)
            have hqq : ∀ b, b < q → some b ≠ some (⟨q, 0, none⟩ : Addr).block := fun b hb e => by injection e with e; exact absurd e (show ¬ b = q by omega)
            have HX3 := Lib.hid (show Ctx w w.heap.size t.length [.slice A0 n0 c0, .slice A1 n1 c1, .slice A2 n2 c2, .slice A3 n3 c3, .slice A4 C.cased.length c4, .slice A5 C.ign.length c5] bC bF p (wr.setCell ⟨q, 0, none⟩ (.bool false)) (fun j => hasR C.cased (t.getD j 0)) (fun j => hasR C.ign (t.getD j 0)) (fun j => if j < t.length then nearC C (t.take j).reverse else finC C t j) from ⟨HX2.out.a.grown gr (by have := HX2.out.hp; show _ ≤ q; omega), HX2.out.x6.grown gr (hqq _ (by omega)), HX2.out.pb.grown gr (hqq _ (by omega)), HX2.out.hp⟩)
            have HB3 := Lib.hid (hB.set 0 (.bool false))
            have WfE : ∃ Wf, wr.setCell ⟨q, 0, none⟩ (.bool false) = Wf := ⟨_, rfl⟩
            have qn : IntKind.i64.wrap ((t.length : Int) - 1) = (t.length : Int) - 1 := IntWalk.i64_in _ (by omega)
            clear hX hB HX2 gr hqq
            go_wp2_with fail
            obtain ⟨Wf, hWf⟩ := WfE
            rw [hWf] at HX3 HB3 ⊢
            clear hWf g0 g1 gl hlt hi qn
            go_loopw [12] (fun u wr => ∃ k : Nat, k ≤ t.length ∧ u = .int .i64 (dn k) ∧ Ctx w w.heap.size t.length [.slice A0 n0 c0, .slice A1 n1 c1, .slice A2 n2 c2, .slice A3 n3 c3, .slice A4 C.cased.length c4, .slice A5 C.ign.length c5] bC bF p wr (fun j => hasR C.cased (t.getD j 0)) (fun j => hasR C.ign (t.getD j 0)) (fun j => if j < k then nearC C (t.take j).reverse else finC C t j) ∧ Box wr q 4 [.bool (nearC C (t.drop k))]) (fun u _ => (intOf u + 1).toNat)
            case atStart => exact ⟨t.length, Nat.le_refl _, by rw [dn_eq], HX3.out, by rw [N1.out]; exact HB3.out⟩
            case round =>
              obtain ⟨k, hk, rfl, hX, hB⟩ := hrel
              clear HX3 HB3
              cases k with
              | zero =>
                have HX := Lib.hid hX
                have g0 := hX.a.x4.cell (i := 0) rfl
                have g1 := hX.a.x4.free 0
                have gl := hX.a.x4.lt
                clear hX hB
                simp only [dn]
                go_wp2_with fail
                have gr := grown_set wr ⟨w.heap.size + 1, 0, none⟩ (.slice (some ⟨bC, 0, none⟩) t.length t.length)
                have hqq : ∀ b, b ≠ w.heap.size + 1 → some b ≠ some (⟨w.heap.size + 1, 0, none⟩ : Addr).block := fun b hb e => hb (by injection e)
                refine bodyPost_ret (results_context_any _ _ (b := w.heap.size + 1) rfl rfl ((HX.out.a.x4.set 0 (.slice (some ⟨bC, 0, none⟩) t.length t.length)).cell (i := 0) rfl)) rfl ?_
                exact ⟨bC, bF, rfl, HX.out.a.cb.grown gr (hqq _ (by have := HX.out.a.ne; omega)), by
                  have := HX.out.a.fb.grown gr (hqq _ (by have := HX.out.a.ne; omega))
                  rw [tabV_ext (g := finC C t) (fun j _ => by rw [if_neg (Nat.not_lt_zero _)])] at this
                  exact this, by have := HX.out.a.ne; omega, by have := HX.out.a.ne; omega, HX.out.a.lo.setCell (by show w.heap.size ≤ w.heap.size + 1; omega) _⟩
              | succ m =>
                have hm : m < t.length := by omega
                have VC := Lib.hid (hX.visit hq hB hm)
                have NDi := Lib.hid (ND.out m hm)
                have GDi := Lib.hid (GD.out m hm)
                have FNi := Lib.hid (FN.out m)
                have ci0 : (0 : Int) ≤ m := by omega
                have ci1 : (m : Int) < t.length := by omega
                have qn : IntKind.i64.wrap ((m : Int) - 1) = (m : Int) - 1 := IntWalk.i64_in _ (by omega)
                clear hX hB
                generalize hnx : nearC C (t.drop (m + 1)) = x at *
                clear hnx
                simp only [dn]
                go_wp2_with fail
                with_reducible refine VC.out.mono ?_
                rintro e W1 ⟨rfl, hX1, hB1⟩
                have HB3 := Lib.hid ((show (if hasR C.ign (t.getD m 0) = true then x else hasR C.cased (t.getD m 0)) = nearC C (t.drop m) by rw [NDi.out, GDi.out]) ▸ hB1)
                have hbf : bF ≠ q := by have := hX1.a.ne; have := hX1.hp; omega
                clear VC hB1
                cases x with
                | true =>
                  have g0 := hX1.a.fb.cell (i := m) (tabV_get _ hm)
                  have g1 := hX1.a.fb.free m
                  have gl := hX1.a.fb.lt
                  have HX2 := Lib.hid (hX1.setF (i := m) false (g := fun j => if j < m then nearC C (t.take j).reverse else finC C t j) (by rw [if_neg (by omega), FNi.out]; simp) (fun j _ hj => by
                    by_cases h : j < m
                    · rw [if_pos (by omega), if_pos h]
                    · rw [if_neg (by omega), if_neg h]))
                  have HB4 := Lib.hid (HB3.out.grown (grown_set W1 ⟨bF, m, none⟩ (.bool false)) (fun e => hbf (by injection e with e; exact e.symm)))
                  clear hX1 HB3 hbf
                  go_wp2_with fail
                  go_roundw
                  case rel => exact ⟨m, by omega, congrArg (Value.int IntKind.i64) (dn_eq m).symm, HX2.out, HB4.out⟩
                  case measure => simp [intOf]
                | false =>
                  have HX2 := Lib.hid (hX1.ext (cf' := fun j => hasR C.cased (t.getD j 0)) (pf' := fun j => hasR C.ign (t.getD j 0)) (ff' := fun j => if j < m then nearC C (t.take j).reverse else finC C t j) (fun _ _ => rfl) (fun _ _ => rfl) (fun j _ => by
                    by_cases h : j < m
                    · rw [if_pos (by omega), if_pos h]
                    · by_cases e : j = m
                      · subst e; rw [if_pos (by omega), if_neg h, FNi.out]; simp
                      · rw [if_neg (by omega), if_neg h]))
                  clear hX1 hbf
                  go_wp2_with fail
                  go_roundw
                  case rel => exact ⟨m, by omega, congrArg (Value.int IntKind.i64) (dn_eq m).symm, HX2.out, HB3.out⟩
                  case measure => simp [intOf]

end Go.Proofs.Ytpamkbbmbeeheaa
