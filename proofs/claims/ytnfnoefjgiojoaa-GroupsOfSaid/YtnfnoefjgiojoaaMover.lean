/- The contracts of groups.mover and of the function that it returns. -/
import Derived.Test.YtnfnoefjgiojoaaMove
namespace Go.Proofs.Ytnfnoefjgiojoaa
open Go.RowKit Go.Maps Go.WideMaps

/-- a mover's two cells: the slice of the old groups and the map of where the new ones begin -/
structure Mv (w : World) (f p : Nat) (V : Value) (frm to : List Grp) : Prop where
  c1 : w.cell? ⟨f, 0, none⟩ = some V
  c2 : ∃ q k, w.cell? ⟨p, 0, none⟩ = some (.map (some q)) ∧ MapS Try.prog 9 w q k (begF to)
  gr : ∃ B b, V = .slice B frm.length b ∧ Grps w B frm
theorem Mv.below {w w' : World} {f p : Nat} {V : Value} {frm to : List Grp} (h : Mv w f p V frm to) (hb : Below w.heap.size w w') : Mv w' f p V frm to := by
  obtain ⟨h1, ⟨q, k, h2, h3⟩, ⟨B, b, h4, h5⟩⟩ := h
  exact ⟨(hb.cell (p := ⟨f, 0, none⟩) (World.block_lt_of_cell? w _ h1)).trans h1, ⟨q, k, (hb.cell (p := ⟨p, 0, none⟩) (World.block_lt_of_cell? w _ h2)).trans h2, h3.below hb⟩, ⟨B, b, h4, h5.below hb⟩⟩

def mvV (f p : Nat) : Value := .func (.func 51) #[] #[.pointer (some ⟨f, 0, none⟩), .pointer (some ⟨p, 0, none⟩)]
def RetMover (frm to : List Grp) (w : World) (e : Ending) (w' : World) : Prop := ∃ f p V, e = .returned (mvV f p) ∧ Mv w' f p V frm to ∧ Below w.heap.size w w'

theorem not_take {l : List Grp} (hd : (gnames l).Nodup) {i : Nat} (hi : i < l.length) : l[i].name ∉ gnames (l.take i) := by
  intro h
  have h1 : gnames (l.take (i + 1)) = gnames (l.take i) ++ [l[i].name] := by rw [List.take_succ_eq_append_getElem hi]; unfold gnames; rw [List.map_append]; rfl
  have h2 : (gnames (l.take (i + 1))).Nodup := hd.sublist ((List.take_sublist (i + 1) l).map _)
  rw [h1, List.nodup_append] at h2
  exact h2.2.2 _ h _ (List.mem_singleton.2 rfl) rfl

set_option maxRecDepth 100000 in
set_option maxHeartbeats 3200000 in
theorem mover_any (B : Option Addr) (m b : Nat) (frm : List Grp) (T : Option Addr) (n k : Nat) (to : List Grp) (w : World) (hB : Grps w B frm) (hm : frm.length = m) (hT : Grps w T to) (hn : to.length = n) (hb : n ≤ 1048576)
    (hd : (gnames to).Nodup) (hs : ∀ g ∈ to, g.name.size ≤ 9223372036854775807) :
    Calls Try.prog 35 #[.slice B m b, .slice T n k] w (RetMover frm to w) := by
  subst hm
  subst hn
  have HBG := Lib.hid hB
  have HT := Lib.hid hT
  have HNT := Lib.hid (fun i hi => not_take hd (i := i) hi)
  have HS := Lib.hid (fun i (hi : i < to.length) => hs to[i] (List.getElem_mem hi))
  have hmm := @run_makeMap Try.prog
  clear hB hT hd hs
  go_enter Try.func35, Try.ntmps35
  go_wp2_with fail
  have B0 : Below w.heap.size w (((w.alloc (.cells #[.slice B frm.length b] 23)).alloc (.map #[] 0)).alloc (.cells #[.map (some (w.heap.size + 1))] 58)) := (((Below.refl _ _).alloc (Nat.le_refl _) _).alloc (by simp) _).alloc (by simp; omega) _
  have k0 : (((w.alloc (.cells #[.slice B frm.length b] 23)).alloc (.map #[] 0)).alloc (.cells #[.map (some (w.heap.size + 1))] 58)).cell? ⟨w.heap.size, 0, none⟩ = some (.slice B frm.length b) := by go_simp
  have k1 : (((w.alloc (.cells #[.slice B frm.length b] 23)).alloc (.map #[] 0)).alloc (.cells #[.map (some (w.heap.size + 1))] 58)).cell? ⟨w.heap.size + 2, 0, none⟩ = some (.map (some (w.heap.size + 1))) := by go_simp
  have hM0 := (MapIs.made Try.prog 9 skey sok (w.alloc (.cells #[.slice B frm.length b] 23))).alloc (.cells #[.map (some (w.heap.size + 1))] 58)
  have s0 : (((w.alloc (.cells #[.slice B frm.length b] 23)).alloc (.map #[] 0)).alloc (.cells #[.map (some (w.heap.size + 1))] 58)).heap.size = w.heap.size + 3 := by simp
  rw [show (w.alloc (.cells #[.slice B frm.length b] 23)).heap.size = w.heap.size + 1 by simp] at hM0
  obtain ⟨W0, hW0⟩ : ∃ W0, ((w.alloc (.cells #[.slice B frm.length b] 23)).alloc (.map #[] 0)).alloc (.cells #[.map (some (w.heap.size + 1))] 58) = W0 := ⟨_, rfl⟩
  rw [hW0] at B0 k0 k1 hM0 s0 ⊢
  clear hW0
  have HT0 := Lib.hid HT.out
  have HB0 := Lib.hid (HBG.out.below B0)
  have HM0 := Lib.hid hM0
  have K := Lib.hid (And.intro k0 k1)
  clear hM0 k0 k1 HT HB0
  go_loopw [7, 11] (fun _ u wr => ∃ i : Nat, i ≤ to.length ∧ u = .int .i64 i ∧ MapS Try.prog 9 wr (w.heap.size + 1) i (begF (to.take i)) ∧ wr.cell? ⟨w.heap.size, 0, none⟩ = some (.slice B frm.length b) ∧ wr.cell? ⟨w.heap.size + 2, 0, none⟩ = some (.map (some (w.heap.size + 1))) ∧ Below w.heap.size w wr) (fun _ u _ => to.length - (intOf u).toNat)
  case atStart => exact ⟨0, Nat.zero_le _, rfl, HM0.out.ext (fun s _ => by simp [begF, gnames]), K.out.1, K.out.2, B0⟩
  case round =>
    obtain ⟨i, hi, rfl, hM, k0, k1, hb⟩ := hrel
    have HM := Lib.hid hM; have HK := Lib.hid k0
    clear hM HM0 K k0
    have hw : w.heap.size ≤ wr.heap.size := hb.size
    have hx1 : w.heap.size + 2 < wr.heap.size := World.block_lt_of_cell? wr _ k1
    by_cases hlt : i < to.length
    · obtain ⟨b1, o1, rfl, hbl, hcell⟩ := (HT0.out.below hb).at hlt
      obtain ⟨c1, c2, c3⟩ := hcell i hlt
      have hss := HS.out i hlt
      have HE := Lib.hid (List.take_succ_eq_append_getElem hlt)
      have HP := Lib.hid (begF_put (HNT.out i hlt))
      have hx2 : ¬ w.heap.size + 2 = wr.heap.size := by omega
      clear hcell
      generalize hgi : to[i] = gi at *
      obtain ⟨nm, lo, hi'⟩ := gi
      dsimp only at *
      clear hgi
      go_wp2_with (at_mapUpdate; refine wpList_mput rfl _ _ _ 58 rfl (HM.out.alloc _) law_str Try.underlying58 (by unfold maxLen; omega) rfl rfl rfl (sok_of hss) (key_str hss) (fun y _ e => skey_inj e) ?_; intro w9 hM9 hg9)
      have hb9 := below_grown (hb.alloc hb.size (.cells #[.string nm, .int .i64 lo, .int .i64 hi'] 36)) hg9 (by omega) (by have := hb.size; simp; omega)
      have HM9 := Lib.hid hM9
      have r0 := hg9.cell (((Below.refl _ wr).alloc (Nat.le_refl _) (.cells #[.string nm, .int .i64 lo, .int .i64 hi'] 36) |>.cell (p := ⟨w.heap.size, 0, none⟩) (by show w.heap.size < _; omega)).trans HK.out) (by simp)
      have r1 := hg9.cell (((Below.refl _ wr).alloc (Nat.le_refl _) (.cells #[.string nm, .int .i64 lo, .int .i64 hi'] 36) |>.cell (p := ⟨w.heap.size + 2, 0, none⟩) hx1).trans k1) (by simp)
      clear hM9 hg9
      go_roundw
      case rel => exact ⟨i + 1, by omega, by go_num, by rw [HE.out]; exact HM9.out.ext (fun x _ => HP.out x), r0, r1, hb9⟩
      case measure => simp [intOf]; omega
    · have e1 : to.take i = to := List.take_of_length_le (by omega)
      have HM' := Lib.hid (e1 ▸ HM.out)
      clear HM e1
      go_wp2_with fail
      go_ret
      exact ⟨w.heap.size, w.heap.size + 2, _, rfl, ⟨HK.out, ⟨_, _, k1, HM'.out⟩, ⟨B, b, rfl, HBG.out.below hb⟩⟩, hb⟩

/-- an int is returned, nothing that was there has changed -/
def RetI (v : Int) (w : World) (e : Ending) (w' : World) : Prop := e = .returned (.int .i64 v) ∧ Below w.heap.size w w'

theorem movF_some {frm to : List Grp} {x : Int} {g : Grp} (h : conG frm x = some g) : movF frm to x = (gOf to g.name).lo + x - g.lo := by unfold movF; rw [h]
theorem movF_none {frm to : List Grp} {x : Int} (h : conG frm x = none) : movF frm to x = x := by unfold movF; rw [h]

set_option maxRecDepth 100000 in
set_option maxHeartbeats 3200000 in
theorem mover1_any (f p : Nat) (V : Value) (frm to : List Grp) (x : Int) (w : World) (h : Mv w f p V frm to) (hb : frm.length ≤ 1048576) (hs : ∀ g ∈ frm, g.name.size ≤ 9223372036854775807)
    (hnm : ∀ g ∈ frm, g.name ∈ gnames to) (hf : ∀ g ∈ frm, 0 ≤ g.lo ∧ g.hi ≤ 65535) (ht : ∀ g ∈ to, 0 ≤ g.lo ∧ g.lo ≤ 2000000) :
    Calls Try.prog 51 #[.int .i64 x, .pointer (some ⟨f, 0, none⟩), .pointer (some ⟨p, 0, none⟩)] w (RetI (movF frm to x) w) := by
  obtain ⟨h1, ⟨q, k, h2, h3⟩, ⟨B, b, rfl, h5⟩⟩ := h
  have CO := Lib.hid (containing_any B frm.length b frm x w h5 rfl hb)
  have HM := Lib.hid h3
  have hp : p < w.heap.size := World.block_lt_of_cell? w _ h2
  have H2 := Lib.hid h2
  clear h5 h3 h2
  cases hc : conG frm x with
  | some g =>
    obtain ⟨m1, m2, m3⟩ := conG_mem hc
    have hss := hs g m1
    have hin := hnm g m1
    have hfl := hf g m1
    obtain ⟨g', hg', hgn⟩ := List.mem_map.1 hin
    have htl := ht _ (gOf_spec hin).1
    have HV := Lib.hid (show begF to g.name = some (.int .i64 (gOf to g.name).lo) by unfold begF; rw [if_pos hin])
    rw [movF_some hc]
    rw [hc] at CO
    clear hc hs hnm hf ht hin hgn hg' g' m1
    generalize (gOf to g.name).lo = y at *
    obtain ⟨gn, glo, ghi⟩ := g
    dsimp only at *
    have q1 : IntKind.i64.wrap (y + x) = y + x := IntWalk.i64_in _ (by omega)
    have q2 : IntKind.i64.wrap (y + x - glo) = y + x - glo := IntWalk.i64_in _ (by omega)
    go_enter Try.func51, Try.ntmps51
    go_wp2_with fail
    refine CO.out.mono ?_
    rintro e w1 ⟨rfl, hb1⟩
    unfold conV gv
    have HM1 := Lib.hid (HM.out.below hb1)
    have j2 := (hb1.cell (p := ⟨p, 0, none⟩) hp).trans H2.out
    have hp1 : p < w1.heap.size := by have := hb1.size; omega
    have hp2 : ¬ p = w1.heap.size := by omega
    clear CO
    go_wp2_with (at_lookup; refine wpList_look rfl _ _ 58 rfl (HM1.out.alloc _) law_str Try.underlying58 (zero_int _) rfl rfl (sok_of hss) (key_str hss) ?_; rw [HV.out]; simp only [Option.getD_some])
    go_ret
    exact ⟨rfl, hb1.alloc hb1.size _⟩
  | none =>
    rw [movF_none hc]
    rw [hc] at CO
    clear hc hs hnm hf ht
    go_enter Try.func51, Try.ntmps51
    go_wp2_with fail
    refine CO.out.mono ?_
    rintro e w1 ⟨rfl, hb1⟩
    unfold conV
    clear CO
    go_wp2_with fail
    go_ret
    exact ⟨rfl, hb1.alloc hb1.size _⟩

end Go.Proofs.Ytnfnoefjgiojoaa
