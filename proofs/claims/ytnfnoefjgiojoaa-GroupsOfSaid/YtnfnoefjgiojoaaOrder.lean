/- The contract of groups.Order: the groups in their new order, or the first error. -/
import Derived.Test.YtnfnoefjgiojoaaOrdPlain
import Derived.Laws.EntriesVeiled
namespace Go.Proofs.Ytnfnoefjgiojoaa
open Go.RowKit Go.Maps Go.WideMaps

/-- a slice of strings -/
def Strs (w : World) (A : Option Addr) (l : List ByteArray) : Prop := Sl w A (l.map Value.string)
theorem Strs.below {w w' : World} {A : Option Addr} {l : List ByteArray} (h : Strs w A l) (hb : Below w.heap.size w w') : Strs w' A l := Sl.below h hb
theorem Strs.at {w : World} {A : Option Addr} {l : List ByteArray} (h : Strs w A l) {k : Nat} (hk : k < l.length) :
    ∃ b o, A = some ⟨b, o, none⟩ ∧ b < w.heap.size ∧ ∀ j, (hj : j < l.length) → w.cell? ⟨b, o + j, none⟩ = some (.string l[j]) := by
  obtain ⟨b, o, hA, hc⟩ := Sl.at h (k := k) (by simpa using hk)
  exact ⟨b, o, hA, World.block_lt_of_cell? w _ (hc k (.string l[k]) (by simp [hk])), fun j hj => hc j _ (by simp [hj])⟩

/-- groups and an error are returned; nothing that was there has changed -/
def RetOrd (gs : List Grp) (err : Int) (w : World) (e : Ending) (w' : World) : Prop := ∃ A c, e = .returned (.tuple #[.slice A gs.length c, .int .i64 err]) ∧ gs.length ≤ c ∧ Grps w' A gs ∧ Below w.heap.size w w'
def ordOut (c : Col) (names : List ByteArray) : List Grp := if ordErr c names = 0 then ordG c.grps names else []

theorem zero_group (w : World) : (zeroValue 36).run Try.prog w = .ok (.agg #[.string .empty, .int .i64 0, .int .i64 0]) w := by kernel_rfl

/-- the map of groups by names: what it holds -/
def GMap (l : List ByteArray) (f : ByteArray → Option Value) : Prop := ∀ s, (s ∉ l ∧ f s = none) ∨ (s ∈ l ∧ ∃ g : Grp, f s = some (gv g))
theorem GMap.put {l : List ByteArray} {f : ByteArray → Option Value} (h : GMap l f) (g : Grp) : GMap (l ++ [g.name]) (fun y => if y = g.name then some (gv g) else f y) := by
  intro s
  by_cases e : s = g.name
  · right; exact ⟨by simp [e], g, by simp [e]⟩
  · rcases h s with ⟨h1, h2⟩ | ⟨h1, h2⟩
    · left; exact ⟨by simp [h1, e], by simp [e, h2]⟩
    · right; exact ⟨by simp [h1], by simpa [e] using h2⟩

theorem take_nodup {l : List ByteArray} {k : Nat} (hk : k < l.length) (hn : (l.take k).Nodup) (h : l[k] ∉ l.take k) : (l.take (k + 1)).Nodup := by
  rw [List.take_succ_eq_append_getElem hk, List.nodup_append]
  refine ⟨hn, by simp, fun a ha b hb e => ?_⟩
  rw [List.mem_singleton] at hb
  subst hb; subst e
  exact h ha
theorem take_dup {l : List ByteArray} {k : Nat} (hk : k < l.length) (h : l[k] ∈ l.take k) : ¬ l.Nodup := by
  intro hn
  have h1 := hn.sublist (List.take_sublist (k + 1) l)
  rw [List.take_succ_eq_append_getElem hk, List.nodup_append] at h1
  exact h1.2.2 _ h _ (List.mem_singleton.2 rfl) rfl

section
variable {c : Col} {names : List ByteArray}
theorem ordC (h : colErr c ≠ 0) : ordErr c names = colErr c := by unfold ordErr; rw [if_pos h]
theorem ord6 (h : colErr c = 0) (h6 : ¬ ∀ s ∈ names, s ∈ gnames c.grps) : ordErr c names = 6 := by unfold ordErr; rw [if_neg (by simpa using h), if_pos h6]
theorem ord5 (h : colErr c = 0) (h6 : ∀ s ∈ names, s ∈ gnames c.grps) (h5 : ¬ names.Nodup) : ordErr c names = 5 := by unfold ordErr; rw [if_neg (by simpa using h), if_neg (by simpa using h6), if_pos h5]
theorem ord0 (h : colErr c = 0) (h6 : ∀ s ∈ names, s ∈ gnames c.grps) (h5 : names.Nodup) : ordErr c names = 0 := by unfold ordErr; rw [if_neg (by simpa using h), if_neg (by simpa using h6), if_neg (by simpa using h5)]
end

/-- storing a group's ends -/
theorem GRow.set2 {w : World} {base g n c : Nat} {d : List Grp} (h : GRow w base g n c d) {i : Nat} {x : Grp} (hx : d[i]? = some x) (lo hi : Int) :
    GRow ((w.setCell ⟨g, i * 3 + 1, none⟩ (.int .i64 lo)).setCell ⟨g, i * 3 + 2, none⟩ (.int .i64 hi)) base g n c (d.set i ⟨x.name, lo, hi⟩) ∧
    w.grownBy ((w.setCell ⟨g, i * 3 + 1, none⟩ (.int .i64 lo)).setCell ⟨g, i * 3 + 2, none⟩ (.int .i64 hi)) (some g) := by
  obtain ⟨hl, rfl⟩ := List.getElem?_eq_some_iff.1 hx
  have s2 := World.ownsRow.stored h (i * 3 + 1) (.int .i64 lo)
  have s3 := s2.1.stored (i * 3 + 2) (.int .i64 hi)
  refine ⟨?_, ?_⟩
  · have h3 := s3.1
    have h4 := flatK_set d i ⟨d[i].name, lo, hi⟩ hl
    have h5 : (flatK Grp.cells d).set (i * 3) (.string d[i].name) = flatK Grp.cells d := by
      have h6 := flatK_get Grp.cells 3 (fun _ => rfl) d i 0 hl (by omega)
      have h7 : (flatK Grp.cells d)[i * 3]? = some (.string d[i].name) := h6
      obtain ⟨h8, h9⟩ := List.getElem?_eq_some_iff.1 h7
      rw [← h9]; exact List.set_getElem_self h8
    dsimp only at h4
    rw [h5] at h4
    rw [h4] at h3
    exact h3
  · exact ⟨rfl, rfl, rfl, by simp, fun k hk hne => (s3.2.block k (by simpa using hk) hne).trans (s2.2.block k hk hne)⟩

set_option maxRecDepth 100000 in
set_option maxHeartbeats 16000000 in
theorem Order_any (A : Option Addr) (n a : Nat) (B : Option Addr) (m b : Nat) (c : Col) (N : Option Addr) (kn kc : Nat) (names : List ByteArray) (w : World) (h : ColAt w A n B m c) (hz : ColSz c) (hm8 : m ≤ 19)
    (hN : Strs w N names) (hkn : names.length = kn) (hk12 : kn ≤ 1048576) (hns : ∀ s ∈ names, s.size ≤ 9223372036854775807) :
    Calls Try.prog 13 #[colV A n a B m b c, .slice N kn kc] w (RetOrd (ordOut c names) (ordErr c names) w) := by
  subst hkn
  have W0E : ∃ W0, (w.alloc (.cells #[.slice A n a, .slice B m b, .int .i64 c.base, .int .i64 c.second, .int .i64 c.third] 25)).alloc (.cells #[.slice N names.length kc] 26) = W0 := ⟨_, rfl⟩
  have B0 : Below w.heap.size w ((w.alloc (.cells #[.slice A n a, .slice B m b, .int .i64 c.base, .int .i64 c.second, .int .i64 c.third] 25)).alloc (.cells #[.slice N names.length kc] 26)) := ((Below.refl _ _).alloc (Nat.le_refl _) _).alloc (by simp) _
  have s0 : ((w.alloc (.cells #[.slice A n a, .slice B m b, .int .i64 c.base, .int .i64 c.second, .int .i64 c.third] 25)).alloc (.cells #[.slice N names.length kc] 26)).heap.size = w.heap.size + 2 := by simp
  have k1 : ((w.alloc (.cells #[.slice A n a, .slice B m b, .int .i64 c.base, .int .i64 c.second, .int .i64 c.third] 25)).alloc (.cells #[.slice N names.length kc] 26)).cell? ⟨w.heap.size, 1, none⟩ = some (.slice B m b) := by simp
  have l0 : ((w.alloc (.cells #[.slice A n a, .slice B m b, .int .i64 c.base, .int .i64 c.second, .int .i64 c.third] 25)).alloc (.cells #[.slice N names.length kc] 26)).cell? ⟨w.heap.size + 1, 0, none⟩ = some (.slice N names.length kc) := by simp
  have CK := Lib.hid (fun W (hb : Below w.heap.size w W) => ckColl_any A n a B m b c W (h.below hb) hz)
  have OC := Lib.hid (ordC (c := c) (names := names))
  have O6 := Lib.hid (ord6 (c := c) (names := names))
  have O5 := Lib.hid (ord5 (c := c) (names := names))
  have O0 := Lib.hid (ord0 (c := c) (names := names))
  have OUT0 := Lib.hid (fun (h : ordErr c names ≠ 0) => show ordOut c names = [] by unfold ordOut; rw [if_neg h])
  have OUT1 := Lib.hid (fun (h : ordErr c names = 0) => show ordOut c names = ordG c.grps names by unfold ordOut; rw [if_pos h])
  have hmm := @run_makeMap Try.prog
  have HG := Lib.hid h.grps
  have HM := Lib.hid h.hm
  have HSZ := Lib.hid (fun i (hi : i < c.grps.length) => h.hs c.grps[i] (List.getElem_mem hi))
  have HN := Lib.hid hN
  have HNS := Lib.hid hns
  have FIN := Lib.hid (fun (err : Int) (W : World) (hW : Below w.heap.size w W) (he : ordErr c names = err) (hne : err ≠ 0) => show RetOrd (ordOut c names) (ordErr c names) w (.returned (.tuple #[.slice none 0 0, .int .i64 err])) W by
    rw [OUT0.out (by rw [he]; exact hne), he]
    exact ⟨none, 0, rfl, Nat.le_refl _, Sl.nil _ _, hW⟩)
  unfold colV at *
  clear h hz hN hns
  go_enter Try.func13, Try.ntmps13
  go_wp2_with fail
  obtain ⟨W0, hW0⟩ := W0E
  rw [hW0] at B0 s0 k1 l0 ⊢
  clear hW0
  have hx0 : w.heap.size < W0.heap.size := by omega
  have hx1 : w.heap.size + 1 < W0.heap.size := by omega
  have HG0 := Lib.hid (HG.out.below B0)
  have HN0 := Lib.hid (HN.out.below B0)
  have K := Lib.hid (And.intro k1 l0)
  clear s0 k1 l0 HG HN
  refine (CK.out W0 B0).mono ?_
  rintro e W1 ⟨rfl, hb1⟩
  clear CK
  by_cases hce : colErr c = 0
  · have c1 : (colErr c != 0) = false := by simpa using hce
    have O6' := Lib.hid (O6.out hce); have O5' := Lib.hid (O5.out hce); have O0' := Lib.hid (O0.out hce)
    have HOK := Lib.hid (col_ok hce)
    clear hce O6 O5 O0 OC
    generalize colErr c = ce at *
    generalize hgs : c.grps = gs at *
    have HGS := Lib.hid hgs
    have hmm' : gs.length = m := HM.out
    subst hmm'
    clear hgs HM
    have f1 := (hb1.cell (p := ⟨w.heap.size, 1, none⟩) hx0).trans K.out.1
    have hx3 : w.heap.size < W1.heap.size := by have := hb1.size; omega
    go_wp2_with fail
    have hM0 := MapIs.made Try.prog 9 skey sok W1
    have hb2 := hb1.alloc hb1.size (.map #[] 0)
    obtain ⟨mb, hmb⟩ : ∃ mb, W1.heap.size = mb := ⟨_, rfl⟩
    rw [hmb] at hM0 ⊢
    have hmb0 : W0.heap.size ≤ mb := by have := hb1.size; omega
    obtain ⟨W2, hW2⟩ : ∃ W2, W1.alloc (.map #[] 0) = W2 := ⟨_, rfl⟩
    rw [hW2] at hM0 hb2 ⊢
    clear hW2 hmb hb1 f1 hx3
    go_loopw [9, 33] (fun _ u wr => ∃ (i : Nat) (f : ByteArray → Option Value), i ≤ gs.length ∧ u = .int .i64 i ∧ GMap (nms gs i) f ∧ MapS Try.prog 9 wr mb i f ∧ Below W0.heap.size W0 wr) (fun _ u _ => gs.length - (intOf u).toNat)
    case atStart => exact ⟨0, fun _ => none, Nat.zero_le _, rfl, fun s => .inl ⟨by simp [nms], rfl⟩, hM0, hb2⟩
    case round =>
      obtain ⟨i, f, hi, rfl, hf, hM, hb⟩ := hrel
      have HF := Lib.hid hf; have HMP := Lib.hid hM
      clear hf hM hM0 hb2
      by_cases hlt : i < gs.length
      · obtain ⟨b1, o1, rfl, hbl, hcell⟩ := (HG0.out.below hb).at hlt
        obtain ⟨c1, c2, c3⟩ := hcell i hlt
        have hss := HSZ.out i hlt
        have HE := Lib.hid (nms_succ hlt)
        have HP := Lib.hid (HF.out.put gs[i])
        clear hcell
        generalize hgi : gs[i] = gi at *
        obtain ⟨nm, lo, hi'⟩ := gi
        unfold gv at HP
        dsimp only at *
        clear hgi
        go_wp2_with (at_mapUpdate; refine wpList_mput rfl _ _ _ 56 rfl (HMP.out.alloc _) law_str Try.underlying56 (by unfold maxLen; omega) rfl rfl rfl (sok_of hss) (key_str hss) (fun y _ e => skey_inj e) ?_; intro w9 hM9 hg9)
        have hb9 := below_grown (hb.alloc hb.size (.cells #[.string nm, .int .i64 lo, .int .i64 hi'] 36)) hg9 hmb0 (by have := hb.size; simp; omega)
        have HM9 := Lib.hid hM9
        clear hM9 hg9
        go_roundw
        case rel => exact ⟨i + 1, _, by omega, by go_num, by rw [HE.out]; exact HP.out, HM9.out, hb9⟩
        case measure => simp [intOf]; omega
      · have e1 : nms gs i = gnames gs := by rw [show i = gs.length by omega]; exact nms_all
        have HF' := Lib.hid (e1 ▸ HF.out)
        clear HF e1
        have g0 := (hb.cell (p := ⟨w.heap.size + 1, 0, none⟩) hx1).trans K.out.2
        go_wp2
        clear g0
        obtain ⟨wq, rfl⟩ : ∃ wq : World, wq = wr := ⟨_, rfl⟩
        go_loopw [11, 12, 13, 44] (fun _ _ _ u wr => ∃ i : Nat, i ≤ names.length ∧ u = .int .i64 i ∧ (∀ t, (ht : t < names.length) → t < i → names[t] ∈ gnames gs) ∧ MapS Try.prog 9 wr mb gs.length f ∧ Below W0.heap.size W0 wr) (fun _ _ _ u _ => names.length - (intOf u).toNat)
        case atStart => exact ⟨0, Nat.zero_le _, rfl, fun t _ h => by omega, HMP.out.mono hi, hb⟩
        case round =>
          obtain ⟨j, hj, rfl, h6, hM, hb⟩ := hrel
          have H6 := Lib.hid h6; have HMQ := Lib.hid hM
          clear h6 hM
          by_cases hlt : j < names.length
          · obtain ⟨b1, o1, rfl, hbl, hcell⟩ := (HN0.out.below hb).at hlt
            have c1 := hcell j hlt
            have hss := HNS.out names[j] (List.getElem_mem hlt)
            have H6N := Lib.hid (fun h => all_up (P := fun s => s ∈ gnames gs) hlt H6.out h)
            have H6B := Lib.hid (fun (h : names[j] ∉ gnames gs) => O6'.out (fun hall => h (hall _ (List.getElem_mem hlt))))
            have HFJ := HF'.out names[j]
            clear hcell
            generalize names[j] = nm at *
            rcases HFJ with ⟨hnin, hv⟩ | ⟨hin, g, hv⟩
            · have HV := Lib.hid hv
              have HQ := Lib.hid (FIN.out 6 _ (B0.trans ((hb.alloc hb.size (.cells #[.string .empty, .int .i64 0, .int .i64 0] 36)).mono B0.size)) (H6B.out hnin) (by omega))
              clear hv hnin H6B H6N
              go_wp2_with (at_lookup; refine wpList_lookOk rfl _ _ 56 rfl HMQ.out law_str Try.underlying56 (zero_group _) rfl rfl (sok_of hss) (key_str hss) ?_; rw [HV.out]; simp only [Option.getD_none, Option.isSome_none])
              go_ret2
              exact HQ.out
            · obtain ⟨gn, glo, ghi⟩ := g
              unfold gv at hv
              have HV := Lib.hid hv
              have HQ := Lib.hid (H6N.out hin)
              clear hv hin H6B H6N
              go_wp2_with (at_lookup; refine wpList_lookOk rfl _ _ 56 rfl HMQ.out law_str Try.underlying56 (zero_group _) rfl rfl (sok_of hss) (key_str hss) ?_; rw [HV.out]; simp only [Option.getD_some, Option.isSome_some])
              go_roundw
              case rel => exact ⟨j + 1, by omega, by go_num, HQ.out, HMQ.out.alloc _, hb.alloc hb.size _⟩
              case measure => simp [intOf]; omega
          · have H6' := Lib.hid (show ∀ s ∈ names, s ∈ gnames gs from fun s hs => by
              obtain ⟨t, ht, rfl⟩ := List.getElem_of_mem hs
              exact H6.out t ht (by omega))
            clear H6 HMQ HMP HF'
            have g0 := (hb.cell (p := ⟨w.heap.size + 1, 0, none⟩) hx1).trans K.out.2
            have hx4 : w.heap.size + 1 < wr.heap.size := by have := hb.size; omega
            have hx5 : w.heap.size < wr.heap.size := by omega
            have hx6 : w.heap.size + 1 < wr.heap.size + 1 := by omega
            have hx7 : ¬ w.heap.size + 1 = wr.heap.size := by omega
            have hx8 : ¬ w.heap.size = wr.heap.size := by omega
            go_wp2
            have hM0 := (MapIs.made Try.prog 9 skey sok wr).alloc (.cells #[.map (some wr.heap.size)] 58)
            have hb5 := (hb.alloc hb.size (.map #[] 0)).alloc (by have := hb.size; simp; omega) (.cells #[.map (some wr.heap.size)] 58)
            have r5 : ((wr.alloc (.map #[] 0)).alloc (.cells #[.map (some wr.heap.size)] 58)).cell? ⟨wr.heap.size + 1, 0, none⟩ = some (.map (some wr.heap.size)) := by simp
            obtain ⟨mb2, hmb2⟩ : ∃ mb2, wr.heap.size = mb2 := ⟨_, rfl⟩
            rw [hmb2] at hM0 hb5 r5 ⊢
            have hmb20 : W0.heap.size ≤ mb2 := by have := hb.size; omega
            obtain ⟨W5, hW5⟩ : ∃ W5, (wr.alloc (.map #[] 0)).alloc (.cells #[.map (some mb2)] 58) = W5 := ⟨_, rfl⟩
            rw [hW5] at hM0 hb5 r5 ⊢
            have HMR := Lib.hid hM0
            clear hW5 hmb2 g0 hx4 hx5 hx6 hx7 hx8 hM0 hb
            go_loopw [15, 16, 17, 18, 60] (fun _ _ _ _ u wr => ∃ i : Nat, i ≤ names.length ∧ u = .int .i64 i ∧ (names.take i).Nodup ∧ MapS Try.prog 9 wr mb2 i (rankF (names.take i)) ∧ wr.cell? ⟨mb2 + 1, 0, none⟩ = some (.map (some mb2)) ∧ Below W0.heap.size W0 wr) (fun _ _ _ _ u _ => names.length - (intOf u).toNat)
            case atStart => exact ⟨0, Nat.zero_le _, rfl, by simp, HMR.out.ext (fun x _ => by simp [rankF]), r5, hb5⟩
            case round =>
              obtain ⟨j, hj, rfl, h5, hM, r6, hb⟩ := hrel
              have H5 := Lib.hid h5; have HMQ := Lib.hid hM; have HR6 := Lib.hid r6
              clear h5 hM HMR r5 hb5
              by_cases hlt : j < names.length
              · obtain ⟨b1, o1, rfl, hbl, hcell⟩ := (HN0.out.below hb).at hlt
                have c1 := hcell j hlt
                have hss := HNS.out names[j] (List.getElem_mem hlt)
                have H5N := Lib.hid (fun h => take_nodup hlt H5.out h)
                have H5B := Lib.hid (fun h => O5'.out H6'.out (take_dup hlt h))
                have HT := Lib.hid (List.take_succ_eq_append_getElem hlt)
                have hlen : (names.take j).length = j := by rw [List.length_take]; omega
                clear hcell
                generalize names[j] = nm at *
                by_cases hin : nm ∈ names.take j
                · have HV := Lib.hid (show rankF (names.take j) nm = some (.int .i64 (pos (names.take j) nm)) by unfold rankF; rw [if_pos hin])
                  have HQ := Lib.hid (FIN.out 5 _ (B0.trans (hb.mono B0.size)) (H5B.out hin) (by omega))
                  clear hin H5B H5N hlen
                  go_wp2_with (at_lookup; refine wpList_lookOk rfl _ _ 58 rfl HMQ.out law_str Try.underlying58 (zero_int _) rfl rfl (sok_of hss) (key_str hss) ?_; rw [HV.out]; simp only [Option.getD_some, Option.isSome_some])
                  go_ret2
                  exact HQ.out
                · have HV := Lib.hid (show rankF (names.take j) nm = none by unfold rankF; rw [if_neg hin])
                  have HQ := Lib.hid (H5N.out hin)
                  have HP := Lib.hid (rankF_put hin)
                  rw [hlen] at HP
                  clear hin H5B H5N hlen
                  go_wp2_with (first
                    | (at_lookup; refine wpList_lookOk rfl _ _ 58 rfl HMQ.out law_str Try.underlying58 (zero_int _) rfl rfl (sok_of hss) (key_str hss) ?_; rw [HV.out]; simp only [Option.getD_none, Option.isSome_none])
                    | (at_mapUpdate; refine wpList_mput rfl _ _ _ 58 rfl HMQ.out law_str Try.underlying58 (by unfold maxLen; omega) rfl rfl rfl (sok_of hss) (key_str hss) (fun y _ e => skey_inj e) ?_; intro w9 hM9 hg9))
                  have hb9 := below_grown hb hg9 hmb20 hb.size
                  have r9 := hg9.cell HR6.out (by simp)
                  have HM9 := Lib.hid hM9
                  clear hM9 hg9
                  go_roundw
                  case rel => exact ⟨j + 1, by omega, by go_num, HQ.out, by rw [HT.out]; exact HM9.out.ext (fun x _ => HP.out x), r9, hb9⟩
                  case measure => simp [intOf]; omega
              · have e1 : names.take j = names := List.take_of_length_le (by omega)
                have H5' := Lib.hid (e1 ▸ H5.out)
                have HMR := Lib.hid (e1 ▸ HMQ.out)
                clear H5 HMQ e1
                have f1 := (hb.cell (p := ⟨w.heap.size, 1, none⟩) hx0).trans K.out.1
                have hx5 : w.heap.size < wr.heap.size := by have := hb.size; omega
                have hx6 : w.heap.size + 1 < wr.heap.size := by have := hb.size; omega
                have hx7 : mb2 + 1 < wr.heap.size := World.block_lt_of_cell? wr _ HR6.out
                go_wp2_with fail
                have hb6 := hb.alloc hb.size (.cells #[.func (.func 28) #[] #[.pointer (some ⟨mb2 + 1, 0, none⟩), .pointer (some ⟨w.heap.size + 1, 0, none⟩)]] 60)
                have PM : PMem wr.heap.size (mb2 + 1) (w.heap.size + 1) mb2 j N kc names (wr.alloc (.cells #[.func (.func 28) #[] #[.pointer (some ⟨mb2 + 1, 0, none⟩), .pointer (some ⟨w.heap.size + 1, 0, none⟩)]] 60)) :=
                  ⟨by simp, ((Below.refl _ wr).alloc (Nat.le_refl _) _ |>.cell (p := ⟨mb2 + 1, 0, none⟩) hx7).trans HR6.out, ((Below.refl _ wr).alloc (Nat.le_refl _) _ |>.cell (p := ⟨w.heap.size + 1, 0, none⟩) hx6).trans ((hb.cell (p := ⟨w.heap.size + 1, 0, none⟩) hx1).trans K.out.2), HMR.out.alloc _⟩
                obtain ⟨pb, hpb⟩ : ∃ pb, wr.heap.size = pb := ⟨_, rfl⟩
                have s6 : (wr.alloc (.cells #[.func (.func 28) #[] #[.pointer (some ⟨mb2 + 1, 0, none⟩), .pointer (some ⟨w.heap.size + 1, 0, none⟩)]] 60)).heap.size = pb + 1 := by simp [hpb]
                rw [hpb] at PM ⊢
                have hpb0 : W0.heap.size ≤ pb := by have := hb.size; omega
                have hmp : mb2 + 1 < pb := by omega
                obtain ⟨W6, hW6⟩ : ∃ W6, wr.alloc (.cells #[.func (.func 28) #[] #[.pointer (some ⟨mb2 + 1, 0, none⟩), .pointer (some ⟨w.heap.size + 1, 0, none⟩)]] 60) = W6 := ⟨_, rfl⟩
                rw [hW6] at PM hb6 s6 ⊢
                have HPM := Lib.hid PM
                clear hW6 hpb PM hb hx5 hx6 hx7 f1 HMR HR6
                refine (cloneG_any B gs.length b gs W6 (HG0.out.below hb6) rfl (by omega)).mono ?_
                rintro e W7 ⟨A7, c7, rfl, hown7, hb7⟩
                have hb8 := hb6.trans (hb7.mono hb6.size)
                have HPM7 := Lib.hid (HPM.out.below hb7)
                have HOWN7 := Lib.hid hown7
                have hok := HOK.out
                obtain ⟨hok1, hok2, hok3⟩ := hok
                obtain ⟨hnd, hbd0⟩ := grp_ok hok3
                have HBD := Lib.hid (show ∀ g ∈ gs, 1 ≤ g.lo ∧ g.lo ≤ g.hi ∧ g.hi < 65502 from fun g hg => by have := hbd0 g hg; omega)
                have HRAW := Lib.hid (fun d hd => done_raw hnd H5'.out H6'.out (d := d) hd)
                have HMEM := Lib.hid (fun g hg => HBD.out g (raw_mem H6'.out hg))
                have HE0 := Lib.hid (O0'.out H6'.out H5'.out)
                have HOUT := Lib.hid (OUT1.out HE0.out)
                clear hown7 HPM hok1 hok2 hok3 hnd hbd0 OUT0 OUT1 O0' O5' O6' FIN HOK
                by_cases hne : gs.length = 0
                · have hg0 : gs = [] := List.eq_nil_of_length_eq_zero hne
                  have hn0 : names = [] := by
                    cases hnm : names with
                    | nil => rfl
                    | cons s r =>
                      have := H6'.out s (by rw [hnm]; exact List.mem_cons_self ..)
                      rw [hg0] at this; cases this
                  have HO := Lib.hid (show ordOut c names = [] by rw [HOUT.out, hg0, hn0]; rfl)
                  have e0 : (gs.length : Int) = 0 := by omega
                  rw [hne]
                  clear hg0 hn0 e0
                  go_wp2_with fail
                  refine (sortG_none A7 c7 pb W7).mono ?_
                  rintro e w8 ⟨rfl, rfl⟩
                  go_wp2_with fail
                  refine wp_loop_rounds 1 ?_
                  rw [rounds_succ]
                  go_wp2_with fail
                  go_ret2
                  rw [HO.out, HE0.out]
                  exact ⟨A7, c7, rfl, Nat.zero_le _, Sl.nil _ _, B0.trans (hb8.mono B0.size)⟩
                · obtain ⟨g, hA7, hgb, hc7⟩ : ∃ g, A7 = some ⟨g, 0, none⟩ ∧ W6.heap.size ≤ g ∧ gs.length ≤ c7 := by
                    rcases HOWN7.out.2 with ⟨_, h0⟩ | ⟨g, cap, cur, hv, hbg, _, hcc, _⟩
                    · exact absurd h0 hne
                    · injection hv with hA _ hc; exact ⟨g, hA, hbg, by omega⟩
                  subst hA7
                  have HR7 : Hid (GRow W7 W6.heap.size g gs.length c7 gs) := HOWN7.out
                  have CM := Lib.hid (cmps_of (g := g) HPM7.out (by omega) (by omega) (by omega) (by omega) (by omega))
                  clear HOWN7 HPM7
                  go_wp2_with fail
                  refine (sortG_any W6.heap.size g pb gs.length c7 _ gs W7 HR7.out (by omega) CM.out (fun x hx => by obtain ⟨t, ht, rfl⟩ := List.getElem_of_mem hx; exact HSZ.out t ht)).mono ?_
                  rintro e W8 ⟨rfl, d8, hD8, hR8, hg8⟩
                  have hb9 := below_grown hb8 hg8 (by omega) hb8.size
                  obtain rfl := HRAW.out d8 hD8
                  have hrl := hR8.len
                  have HR8 := Lib.hid hR8
                  clear hD8 hR8 hg8 HR7 CM HRAW hb8 hb7 hb6
                  obtain ⟨lo0, hlo0⟩ : ∃ lo0, firstLo gs = lo0 := ⟨_, rfl⟩
                  have HLO := Lib.hid hlo0
                  have hg0 : 0 < gs.length := by omega
                  have hlo1 : gs[0].lo = lo0 := (firstLo_get hg0).trans hlo0
                  have hlob := HBD.out gs[0] (List.getElem_mem hg0)
                  rw [hlo1] at hlob
                  have HLO1 := Lib.hid hlo1
                  generalize hraw : ordRaw gs names = raw at *
                  have HRW := Lib.hid hraw
                  clear hlo0 hlo1 hraw
                  have HLN := Lib.hid hrl
                  go_wp2_with fail
                  go_loopw [21, 22, 23, 85] (fun v _ _ u wr => ∃ i : Nat, i ≤ gs.length ∧ u = .int .i64 i ∧ v = .int .i64 (if i = 0 then 0 else nextLo lo0 (raw.take i)) ∧ GRow wr W6.heap.size g gs.length c7 (half lo0 raw i) ∧ Below W0.heap.size W0 wr) (fun _ _ _ u _ => gs.length - (intOf u).toNat)
                  case atStart => exact ⟨0, Nat.zero_le _, rfl, rfl, by simpa [half, relo] using HR8.out, hb9⟩
                  case round =>
                    obtain ⟨i, hi, rfl, rfl, hR, hb⟩ := hrel
                    have HR := Lib.hid hR
                    clear hR HR8 hb9
                    by_cases hlt : i < gs.length
                    · have hrw : i < raw.length := by have := HLN.out; omega
                      have HX := Lib.hid (half_get lo0 raw i hrw)
                      have HHS := Lib.hid (half_succ lo0 raw i hrw)
                      have hnb := nextLo_bd lo0 (raw.take i) (fun y hy => HMEM.out y (List.mem_of_mem_take hy))
                      have hxb := HMEM.out raw[i] (List.getElem_mem hrw)
                      have HNX := Lib.hid (show nextLo lo0 (raw.take (i + 1)) = nextLo lo0 (raw.take i) + raw[i].hi - raw[i].lo + 1 by rw [List.take_succ_eq_append_getElem hrw, nextLo_snoc])
                      have hn0 : i = 0 → nextLo lo0 (raw.take i) = lo0 := fun e => by rw [e]; rfl
                      have hlt8 : (raw.take i).length ≤ 19 := by rw [List.length_take]; omega
                      generalize nextLo lo0 (raw.take i) = nx at *
                      generalize hgi : raw[i] = gi at *
                      obtain ⟨xn, xlo, xhi⟩ := gi
                      dsimp only at *
                      obtain ⟨x1, x2, x3⟩ := HR.out.cells HX.out
                      dsimp only at x1 x2 x3
                      have q1 : IntKind.i64.wrap (nx + xhi) = nx + xhi := IntWalk.i64_in _ (by omega)
                      have q2 : IntKind.i64.wrap (nx + xhi - xlo) = nx + xhi - xlo := IntWalk.i64_in _ (by omega)
                      have q3 : IntKind.i64.wrap (nx + xhi - xlo + 1) = nx + xhi - xlo + 1 := IntWalk.i64_in _ (by omega)
                      have q4 : (i : Int) < (gs.length : Int) := by omega
                      have HRa := Lib.hid (HR.out.keep ((Below.refl _ wr).alloc (Nat.le_refl _) (.cells #[.string xn, .int .i64 xlo, .int .i64 xhi] 36)))
                      have hba := hb.alloc hb.size (.cells #[.string xn, .int .i64 xlo, .int .i64 xhi] 36)
                      have y1 : (wr.alloc (.cells #[.string xn, .int .i64 xlo, .int .i64 xhi] 36)).cell? ⟨wr.heap.size, 1, none⟩ = some (.int .i64 xlo) := by simp
                      have y2 : (wr.alloc (.cells #[.string xn, .int .i64 xlo, .int .i64 xhi] 36)).cell? ⟨wr.heap.size, 2, none⟩ = some (.int .i64 xhi) := by simp
                      have hgw : g < wr.heap.size := World.block_lt_of_cell? wr _ x1
                      have hgne : ¬ wr.heap.size = g := by omega
                      have hgne' : ¬ g = wr.heap.size := by omega
                      clear hgi HR
                      by_cases hi0 : i = 0
                      · have hn1 := hn0 hi0
                        obtain ⟨b1, o1, rfl, hbl, hcell⟩ := (HG0.out.below hb).at hg0
                        obtain ⟨c1, c2, c3⟩ := hcell 0 hg0
                        rw [HLO1.out] at c2
                        have f1 := (hb.cell (p := ⟨w.heap.size, 1, none⟩) hx0).trans K.out.1
                        have hx3 : w.heap.size < wr.heap.size := by have := hb.size; omega
                        have hx4 : ¬ w.heap.size = wr.heap.size := by omega
                        have hx5 : ¬ b1 = wr.heap.size := by omega
                        have hi1 : ((i : Int) == 0) = true := by simp [hi0]
                        have hgp : (0 : Int) < (gs.length : Int) := by omega
                        simp only [Nat.zero_mul, Nat.add_zero] at c1 c2 c3
                        subst hn1
                        rw [if_pos hi0]
                        clear hcell hn0 hi0
                        go_wp2
                        obtain ⟨Wa, hWa⟩ : ∃ Wa, wr.alloc (.cells #[.string xn, .int .i64 xlo, .int .i64 xhi] 36) = Wa := ⟨_, rfl⟩
                        rw [hWa] at HRa hba y1 y2 ⊢
                        clear hWa
                        obtain ⟨x1, x2, x3⟩ := HRa.out.cells HX.out
                        have fr := HRa.out.frozen
                        go_region
                        have st := HRa.out.set2 HX.out nx (nx + xhi - xlo)
                        have hbs := below_grown hba st.2 (by omega) hba.size
                        obtain ⟨z1, z2, z3⟩ := st.1.cells (i := i) (x := ⟨xn, nx, nx + xhi - xlo⟩) (by rw [List.getElem?_set_self (by have := HRa.out.len; omega)])
                        have HST := Lib.hid st.1
                        obtain ⟨Wb, hWb⟩ : ∃ Wb, (Wa.setCell ⟨g, i * 3 + 1, none⟩ (.int .i64 nx)).setCell ⟨g, i * 3 + 2, none⟩ (.int .i64 (nx + xhi - xlo)) = Wb := ⟨_, rfl⟩
                        rw [hWb] at HST hbs z1 z2 z3 ⊢
                        clear hWb st fr x1 x2 x3 y1 y2
                        go_wp2
                        go_roundw
                        case rel => exact ⟨i + 1, by omega, by go_num, by rw [if_neg (by omega), HNX.out], by rw [← HHS.out]; exact HST.out.drew, hbs.drew⟩
                        case measure => simp [intOf]; omega
                      · rw [if_neg hi0]
                        have hi1 : ¬ (i : Int) = 0 := by omega
                        clear hn0
                        go_wp2
                        obtain ⟨Wa, hWa⟩ : ∃ Wa, wr.alloc (.cells #[.string xn, .int .i64 xlo, .int .i64 xhi] 36) = Wa := ⟨_, rfl⟩
                        rw [hWa] at HRa hba y1 y2 ⊢
                        clear hWa
                        obtain ⟨x1, x2, x3⟩ := HRa.out.cells HX.out
                        have fr := HRa.out.frozen
                        go_region
                        have st := HRa.out.set2 HX.out nx (nx + xhi - xlo)
                        have hbs := below_grown hba st.2 (by omega) hba.size
                        obtain ⟨z1, z2, z3⟩ := st.1.cells (i := i) (x := ⟨xn, nx, nx + xhi - xlo⟩) (by rw [List.getElem?_set_self (by have := HRa.out.len; omega)])
                        have HST := Lib.hid st.1
                        obtain ⟨Wb, hWb⟩ : ∃ Wb, (Wa.setCell ⟨g, i * 3 + 1, none⟩ (.int .i64 nx)).setCell ⟨g, i * 3 + 2, none⟩ (.int .i64 (nx + xhi - xlo)) = Wb := ⟨_, rfl⟩
                        rw [hWb] at HST hbs z1 z2 z3 ⊢
                        clear hWb st fr x1 x2 x3 y1 y2
                        go_wp2
                        go_roundw
                        case rel => exact ⟨i + 1, by omega, by go_num, by rw [if_neg (by omega), HNX.out], by rw [← HHS.out]; exact HST.out.drew, hbs.drew⟩
                        case measure => simp [intOf]; omega
                    · have HF := Lib.hid (half_all lo0 raw i (by have := HLN.out; omega))
                      go_wp2_with fail
                      go_ret2
                      rw [HOUT.out, HE0.out]
                      unfold ordG
                      rw [HLO.out, HRW.out]
                      have h1 := HR.out
                      rw [HF.out] at h1
                      refine ⟨some ⟨g, 0, none⟩, c7, ?_, ?_, Sl.of_own h1, B0.trans (hb.mono B0.size)⟩
                      · exact congrArg (fun k => Ending.returned (.tuple #[.slice (some ⟨g, 0, none⟩) k c7, .int .i64 0])) (show gs.length = (relo lo0 raw).length by rw [relo_len, HLN.out])
                      · rw [relo_len, HLN.out]; exact hc7
  · have c1 : (colErr c != 0) = true := by simpa using hce
    have HQ := Lib.hid (FIN.out _ W1 (B0.trans (hb1.mono B0.size)) (OC.out hce) hce)
    generalize colErr c = ce at *
    go_wp2_with fail
    go_ret2
    exact HQ.out

end Go.Proofs.Ytnfnoefjgiojoaa
