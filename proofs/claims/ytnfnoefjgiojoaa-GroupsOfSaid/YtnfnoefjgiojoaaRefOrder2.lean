/- The contract of the reference's Order. -/
import Derived.Test.YtnfnoefjgiojoaaRefOrder
import Derived.Test.YtnfnoefjgiojoaaRefColl
import Derived.Test.YtnfnoefjgiojoaaStepApp
import Derived.Deep.RegionLaw
namespace Go.Proofs.Ytnfnoefjgiojoaa
open Go.RowKit Go.Maps Go.WideMaps

theorem half_prev (lo : Int) (raw : List Grp) (i : Nat) (hi : i < raw.length) (h0 : 0 < i) : ∃ x, (half lo raw i)[i - 1]? = some x ∧ x.hi + 1 = nextLo lo (raw.take i) := by
  obtain ⟨j, rfl⟩ : ∃ j, i = j + 1 := ⟨i - 1, by omega⟩
  have hj : j < raw.length := by omega
  have hl : (relo lo (raw.take j)).length = j := by rw [relo_len, List.length_take]; omega
  refine ⟨⟨raw[j].name, nextLo lo (raw.take j), nextLo lo (raw.take j) + raw[j].hi - raw[j].lo⟩, ?_, ?_⟩
  · unfold half
    rw [List.take_succ_eq_append_getElem hj, relo_snoc, Nat.add_sub_cancel, List.append_assoc, List.getElem?_append_right (by omega), hl, Nat.sub_self]
    rfl
  · rw [List.take_succ_eq_append_getElem hj, nextLo_snoc]

/-- the groups that stand in no name, of the first i -/
def rst (gs : List Grp) (names : List ByteArray) (i : Nat) : List Grp := names.map (gOf gs) ++ (gs.take i).filter (fun g => decide (g.name ∉ names))
theorem rst_in {gs : List Grp} {names : List ByteArray} {i : Nat} (hi : i < gs.length) (h : gs[i].name ∈ names) : rst gs names (i + 1) = rst gs names i := by
  unfold rst
  rw [List.take_succ_eq_append_getElem hi, List.filter_append, List.filter_cons_of_neg (by simpa using h), List.filter_nil, List.append_nil]
theorem rst_out {gs : List Grp} {names : List ByteArray} {i : Nat} (hi : i < gs.length) (h : gs[i].name ∉ names) : rst gs names (i + 1) = rst gs names i ++ [gs[i]] := by
  unfold rst
  rw [List.take_succ_eq_append_getElem hi, List.filter_append, List.filter_cons_of_pos (by simpa using h), List.filter_nil, List.append_assoc]
theorem rst_all {gs : List Grp} {names : List ByteArray} : rst gs names gs.length = ordRaw gs names := by
  unfold rst ordRaw
  rw [List.take_length]
theorem rst_len (gs : List Grp) (names : List ByteArray) (i : Nat) : (rst gs names i).length ≤ names.length + gs.length := by
  unfold rst
  rw [List.length_append, List.length_map]
  have h1 := List.length_filter_le (fun g => decide (g.name ∉ names)) (gs.take i)
  have h2 := List.length_take_le' i gs
  omega

def OwnG (w : World) (base : Nat) (A : Option Addr) (n c : Nat) (d : List Grp) : Prop := w.ownsRow base 36 3 (.slice A n c) n (flatK Grp.cells d)
theorem OwnG.len {w : World} {base : Nat} {A : Option Addr} {n c : Nat} {d : List Grp} (h : OwnG w base A n c d) : d.length = n := by
  have := h.1
  rw [flatK_len Grp.cells 3 (fun _ => rfl)] at this
  omega
theorem Strs.take {w : World} {A : Option Addr} {l : List ByteArray} (h : Strs w A l) (k : Nat) : Strs w A (l.take k) := by
  intro hne
  obtain ⟨b, o, hA, hc⟩ := h (by intro e; apply hne; rw [List.map_take, e]; simp)
  refine ⟨b, o, hA, fun j u hu => hc j u ?_⟩
  rw [List.map_take, List.getElem?_take] at hu
  split at hu
  · exact hu
  · cases hu

set_option maxRecDepth 100000 in
set_option maxHeartbeats 16000000 in
theorem refOrder_any (A : Option Addr) (n a : Nat) (B : Option Addr) (m b : Nat) (c : Col) (N : Option Addr) (kn kc : Nat) (names : List ByteArray) (w : World) (h : ColAt w A n B m c) (hz : ColSz c) (hm8 : m ≤ 19)
    (hN : Strs w N names) (hkn : names.length = kn) (hk12 : kn ≤ 1048576) (hkc : kn ≤ kc) :
    Calls Try.prog 14 #[colV A n a B m b c, .slice N kn kc] w (RetOrd (ordOut c names) (ordErr c names) w) := by
  subst hkn
  have W0E : ∃ W0, w.alloc (.cells #[.slice A n a, .slice B m b, .int .i64 c.base, .int .i64 c.second, .int .i64 c.third] 25) = W0 := ⟨_, rfl⟩
  have B0 : Below w.heap.size w (w.alloc (.cells #[.slice A n a, .slice B m b, .int .i64 c.base, .int .i64 c.second, .int .i64 c.third] 25)) := (Below.refl _ _).alloc (Nat.le_refl _) _
  have s0 : (w.alloc (.cells #[.slice A n a, .slice B m b, .int .i64 c.base, .int .i64 c.second, .int .i64 c.third] 25)).heap.size = w.heap.size + 1 := by simp
  have k1 : (w.alloc (.cells #[.slice A n a, .slice B m b, .int .i64 c.base, .int .i64 c.second, .int .i64 c.third] 25)).cell? ⟨w.heap.size, 1, none⟩ = some (.slice B m b) := by simp
  have CK := Lib.hid (fun W (hb : Below w.heap.size w W) => refColl_any A n a B m b c W (h.below hb) hz)
  have OC := Lib.hid (ordC (c := c) (names := names))
  have O6 := Lib.hid (ord6 (c := c) (names := names))
  have O5 := Lib.hid (ord5 (c := c) (names := names))
  have O0 := Lib.hid (ord0 (c := c) (names := names))
  have OUT0 := Lib.hid (fun (h : ordErr c names ≠ 0) => show ordOut c names = [] by unfold ordOut; rw [if_neg h])
  have OUT1 := Lib.hid (fun (h : ordErr c names = 0) => show ordOut c names = ordG c.grps names by unfold ordOut; rw [if_pos h])
  have HG := Lib.hid h.grps
  have HM := Lib.hid h.hm
  have HN := Lib.hid hN
  have FIN := Lib.hid (fun (err : Int) (W : World) (hW : Below w.heap.size w W) (he : ordErr c names = err) (hne : err ≠ 0) => show RetOrd (ordOut c names) (ordErr c names) w (.returned (.tuple #[.slice none 0 0, .int .i64 err])) W by
    rw [OUT0.out (by rw [he]; exact hne), he]
    exact ⟨none, 0, rfl, Nat.le_refl _, Sl.nil _ _, hW⟩)
  unfold colV at *
  clear h hz hN
  go_enter Try.func14, Try.ntmps14
  go_wp2_with fail
  obtain ⟨W0, hW0⟩ := W0E
  rw [hW0] at B0 s0 k1 ⊢
  clear hW0
  have hx0 : w.heap.size < W0.heap.size := by omega
  have HG0 := Lib.hid (HG.out.below B0)
  have HN0 := Lib.hid (HN.out.below B0)
  have K := Lib.hid k1
  clear s0 k1 HG HN
  refine (CK.out W0 B0).mono ?_
  rintro e W1 ⟨rfl, hb1⟩
  clear CK
  by_cases hce : colErr c = 0
  · have c1 : (colErr c != 0) = false := by simpa using hce
    have O6' := Lib.hid (O6.out hce); have O5' := Lib.hid (O5.out hce); have O0' := Lib.hid (O0.out hce)
    have HOK := Lib.hid (col_ok hce)
    clear hce O6 O5 O0 OC
    generalize colErr c = ce at *
    generalize c.grps = gs at *
    have hmm' : gs.length = m := HM.out
    subst hmm'
    clear HM
    have IDX := Lib.hid (fun s W (hb : Below W0.heap.size W0 W) => index_any B gs.length b gs s W (HG0.out.below hb) rfl (by omega))
    have HAS := Lib.hid (fun k s W (hk : k ≤ names.length) (hb : Below W0.heap.size W0 W) => has_any N k kc (names.take k) s W ((HN0.out.below hb).take k) (by rw [List.length_take]; omega) (by omega))
    go_wp2
    go_loopw [7] (fun u wr => ∃ i : Nat, i ≤ names.length ∧ u = .int .i64 i ∧ (∀ t, (ht : t < names.length) → t < i → names[t] ∈ gnames gs) ∧ Below W0.heap.size W0 wr) (fun u _ => names.length - (intOf u).toNat)
    case atStart => exact ⟨0, Nat.zero_le _, rfl, fun t _ h => by omega, hb1⟩
    case round =>
      obtain ⟨j, hj, rfl, h6, hb⟩ := hrel
      have H6 := Lib.hid h6
      clear h6 hb1
      by_cases hlt : j < names.length
      · obtain ⟨b1, o1, rfl, hbl, hcell⟩ := (HN0.out.below hb).at hlt
        have c1 := hcell j hlt
        have f1 := (hb.cell (p := ⟨w.heap.size, 1, none⟩) hx0).trans K.out
        have H6N := Lib.hid (fun h => all_up (P := fun s => s ∈ gnames gs) hlt H6.out h)
        have H6B := Lib.hid (fun (h : names[j] ∉ gnames gs) => O6'.out (fun hall => h (hall _ (List.getElem_mem hlt))))
        have CI := Lib.hid (fun n => quiet_left (IDX.out names[j] (wr.drewN n) (below_drewN hb n)))
        have i1 : (j : Int) < (names.length : Int) := by omega
        have GI0 := Lib.hid (gIdx_none (gs := gs) (s := names[j]))
        have GI1 := Lib.hid (gIdx_some (gs := gs) (s := names[j]))
        clear hcell
        generalize names[j] = nm at *
        by_cases hin : nm ∈ gnames gs
        · have HQ := Lib.hid (H6N.out hin)
          have e1 := GI1.out hin
          have q0 : decide (gIdx gs nm < 0) = false := by rw [e1]; simp
          generalize gIdx gs nm = gi at *
          clear hin H6B H6N GI0 GI1 e1
          go_wp2_with fail
          go_quiet (first | exact CI.out _)
          go_wp2_with fail
          go_roundw
          case rel => exact ⟨j + 1, by omega, by go_num, HQ.out, below_drewN hb _⟩
          case measure => simp [intOf]; omega
        · have HQ := Lib.hid (fun n => FIN.out 6 (wr.drewN n) (B0.trans ((below_drewN hb n).mono B0.size)) (H6B.out hin) (by omega))
          have e1 := GI0.out hin
          have q0 : decide (gIdx gs nm < 0) = true := by rw [e1]; decide
          generalize gIdx gs nm = gi at *
          clear hin H6B H6N GI0 GI1 e1
          go_wp2_with fail
          go_quiet (first | exact CI.out _)
          go_wp2_with fail
          go_ret2
          exact HQ.out _
      · have H6' := Lib.hid (show ∀ s ∈ names, s ∈ gnames gs from fun s hs => by
          obtain ⟨t, ht, rfl⟩ := List.getElem_of_mem hs
          exact H6.out t ht (by omega))
        clear H6
        go_wp2
        go_loopw [8] (fun u wr => ∃ i : Nat, i ≤ names.length ∧ u = .int .i64 i ∧ (names.take i).Nodup ∧ Below W0.heap.size W0 wr) (fun u _ => names.length - (intOf u).toNat)
        case atStart => exact ⟨0, Nat.zero_le _, rfl, by simp, hb⟩
        case round =>
          obtain ⟨j, hj, rfl, h5, hb⟩ := hrel
          have H5 := Lib.hid h5
          clear h5
          by_cases hlt : j < names.length
          · obtain ⟨b1, o1, rfl, hbl, hcell⟩ := (HN0.out.below hb).at hlt
            have c1 := hcell j hlt
            have H5N := Lib.hid (fun h => take_nodup hlt H5.out h)
            have H5B := Lib.hid (fun h => O5'.out H6'.out (take_dup hlt h))
            have CI := Lib.hid (fun n => quiet_left (HAS.out j names[j] (wr.drewN n) (by omega) (below_drewN hb n)))
            have i1 : (j : Int) < (names.length : Int) := by omega
            have i2 : (j : Int) ≤ (kc : Int) := by omega
            have i3 : ¬ (kc : Int) < (j : Int) := by omega
            have i4 : j ≤ kc := by omega
            clear hcell
            generalize names[j] = nm at *
            by_cases hin : nm ∈ names.take j
            · have HQ := Lib.hid (fun n => FIN.out 5 (wr.drewN n) (B0.trans ((below_drewN hb n).mono B0.size)) (H5B.out hin) (by omega))
              have hD : decide (nm ∈ names.take j) = true := by simpa using hin
              rw [hD] at CI
              clear hin H5B H5N hD
              go_wp2_with fail
              go_quiet (first | exact CI.out _)
              go_wp2_with fail
              go_ret2
              exact HQ.out _
            · have HQ := Lib.hid (H5N.out hin)
              have hD : decide (nm ∈ names.take j) = false := by simpa using hin
              rw [hD] at CI
              clear hin H5B H5N hD
              go_wp2_with fail
              go_quiet (first | exact CI.out _)
              go_wp2_with fail
              go_roundw
              case rel => exact ⟨j + 1, by omega, by go_num, HQ.out, below_drewN hb _⟩
              case measure => simp [intOf]; omega
          · have e1 : names.take j = names := List.take_of_length_le (by omega)
            have H5' := Lib.hid (e1 ▸ H5.out)
            clear H5 e1
            go_wp2
            go_loopw [9, 10] (fun v u wr => ∃ (i : Nat) (A' : Option Addr) (c' : Nat), i ≤ names.length ∧ u = .int .i64 i ∧ v = .slice A' i c' ∧ OwnG wr W0.heap.size A' i c' ((names.take i).map (gOf gs)) ∧ Below W0.heap.size W0 wr) (fun _ u _ => names.length - (intOf u).toNat)
            case atStart => exact ⟨0, none, 0, Nat.zero_le _, rfl, rfl, World.ownsRow_nil _ _ _ _, hb⟩
            case round =>
              obtain ⟨j, A', c', hj, rfl, rfl, hO, hb⟩ := hrel
              have HO := Lib.hid hO
              clear hO
              by_cases hlt : j < names.length
              · obtain ⟨b1, o1, rfl, hbl, hcell⟩ := (HN0.out.below hb).at hlt
                have c1 := hcell j hlt
                have f1 := (hb.cell (p := ⟨w.heap.size, 1, none⟩) hx0).trans K.out
                have hin := H6'.out names[j] (List.getElem_mem hlt)
                obtain ⟨hp, hpe⟩ := gOf_pos hin
                have CI := Lib.hid (IDX.out names[j] wr.drew hb.drew)
                rw [gIdx_some hin] at CI
                have HT := Lib.hid (show (names.take (j + 1)).map (gOf gs) = (names.take j).map (gOf gs) ++ [gOf gs names[j]] by rw [List.take_succ_eq_append_getElem hlt, List.map_append]; rfl)
                obtain ⟨b2, o2, rfl, hbl2, hcell2⟩ := (HG0.out.below hb).at hp
                obtain ⟨d1, d2, d3⟩ := hcell2 _ hp
                rw [hpe] at d1 d2 d3
                have i1 : (j : Int) < (names.length : Int) := by omega
                have i2 : (pos (gnames gs) names[j] : Int) < (gs.length : Int) := by omega
                clear hcell hcell2 hpe hin
                generalize gOf gs names[j] = gj at *
                generalize pos (gnames gs) names[j] = pj at *
                generalize names[j] = nm at *
                obtain ⟨xn, xlo, xhi⟩ := gj
                dsimp only at d1 d2 d3
                go_wp2_with fail
                have HA1 : Hid (OwnG (wr.alloc (.cells #[.string xn, .int .i64 xlo, .int .i64 xhi] 36)).drew W0.heap.size A' j c' ((names.take j).map (gOf gs))) := Lib.hid (own_keep HO.out ((Below.refl _ wr).alloc (Nat.le_refl _) (.cells #[.string xn, .int .i64 xlo, .int .i64 xhi] 36)).drew)
                have HA2 : Hid (Sl (wr.alloc (.cells #[.string xn, .int .i64 xlo, .int .i64 xhi] 36)).drew (some ⟨wr.heap.size, 0, none⟩) (Grp.cells ⟨xn, xlo, xhi⟩)) := Lib.hid (Sl_new wr (Grp.cells ⟨xn, xlo, xhi⟩) 36 rfl)
                have hba := (hb.alloc hb.size (.cells #[.string xn, .int .i64 xlo, .int .i64 xhi] 36)).drew
                go_region_law (first
                  | (refine step_app rfl (.tmp 53) (.tmp 65) 23 36 (.agg #[.string .empty, .int .i64 0, .int .i64 0]) 3 32 rfl Try.underlying23 info_group rfl (by decide) (by decide) rfl HA1.out rfl HA2.out rfl (by intro u hu; simp [Grp.cells] at hu; rcases hu with rfl | rfl | rfl <;> rfl) (by omega) hba.size ?_; intro A9 c9 w9 hown9 hc9 hb9 _ _)
                  | (go_simp; go_at_call 33; refine CI.out.mono ?_; rintro e w3 ⟨rfl, rfl⟩))
                all_goals (
                  have HO9 := Lib.hid hown9
                  have hb9' := hba.trans hb9
                  clear hown9 hb9
                  go_wp2
                  go_roundw
                  case rel => exact ⟨j + 1, A9, c9, by omega, by go_num, rfl, by unfold OwnG; rw [HT.out, flatK_append]; exact HO9.out, hb9'⟩
                  case measure => simp [intOf]; omega)
              · have e1 : names.take j = names := List.take_of_length_le (by omega)
                have HO' : Hid (OwnG wr W0.heap.size A' j c' (rst gs names 0)) := Lib.hid (by
                  have := HO.out
                  rw [e1] at this
                  unfold rst
                  simpa using this)
                clear HO e1
                go_wp2
                go_loopw [9, 11] (fun v u wr => ∃ (i : Nat) (A' : Option Addr) (k' c' : Nat), i ≤ gs.length ∧ u = .int .i64 i ∧ v = .slice A' k' c' ∧ OwnG wr W0.heap.size A' k' c' (rst gs names i) ∧ Below W0.heap.size W0 wr) (fun _ u _ => gs.length - (intOf u).toNat)
                case atStart => exact ⟨0, A', j, c', Nat.zero_le _, rfl, rfl, HO'.out, hb⟩
                case round =>
                  clear HO'
                  obtain ⟨i, A2, k2, c2, hi, rfl, rfl, hO, hb⟩ := hrel
                  have hk2 : k2 ≤ names.length + gs.length := by rw [← hO.len]; exact rst_len gs names i
                  have HO := Lib.hid hO
                  clear hO
                  have f1 := (hb.cell (p := ⟨w.heap.size, 1, none⟩) hx0).trans K.out
                  by_cases hlt : i < gs.length
                  · obtain ⟨b1, o1, rfl, hbl, hcell⟩ := (HG0.out.below hb).at hlt
                    obtain ⟨c1, c2, c3⟩ := hcell i hlt
                    have C := Lib.hid (HAS.out names.length gs[i].name wr (Nat.le_refl _) hb)
                    rw [List.take_length] at C
                    have RI := Lib.hid (rst_in (names := names) hlt)
                    have RO := Lib.hid (rst_out (names := names) hlt)
                    clear hcell
                    generalize gs[i] = gi at *
                    obtain ⟨xn, xlo, xhi⟩ := gi
                    dsimp only at *
                    by_cases hin : xn ∈ names
                    · have hD : decide (xn ∈ names) = true := by simpa using hin
                      have HQ := Lib.hid (RI.out hin)
                      rw [hD] at C
                      clear hin hD RI RO
                      go_wp2_with fail
                      refine C.out.mono ?_
                      rintro e w3 ⟨rfl, rfl⟩
                      go_wp2_with fail
                      go_roundw
                      case rel => exact ⟨i + 1, A2, k2, _, by omega, by go_num, rfl, by rw [HQ.out]; exact HO.out, hb⟩
                      case measure => simp [intOf]; omega
                    · have hD : decide (xn ∈ names) = false := by simpa using hin
                      have HQ := Lib.hid (RO.out hin)
                      rw [hD] at C
                      clear hin hD RI RO
                      go_wp2_with fail
                      refine C.out.mono ?_
                      rintro e w3 ⟨rfl, rfl⟩
                      go_wp2_with (at_builtin; refine wpList_app _ _ 23 36 (.agg #[.string .empty, .int .i64 0, .int .i64 0]) 3 32 rfl rfl Try.underlying23 info_group rfl (by decide) (by decide) rfl (own_keep HO.out ((Below.refl _ _).alloc (Nat.le_refl _) _)) rfl (Sl_new wr (Grp.cells ⟨xn, xlo, xhi⟩) _ rfl) rfl (by intro u hu; simp [Grp.cells] at hu; rcases hu with rfl | rfl | rfl <;> rfl) (by omega) (by have := hb.size; simp; omega) ?_; intro A9 c9 w9 hown9 hc9 hb9 _ _)
                      have HO9 := Lib.hid hown9
                      have hb9' := (hb.alloc hb.size (.cells #[.string xn, .int .i64 xlo, .int .i64 xhi] 36)).trans hb9
                      clear hown9 hb9
                      go_wp2
                      go_roundw
                      case rel => exact ⟨i + 1, A9, k2 + 1, c9, by omega, by go_num, rfl, by unfold OwnG; rw [HQ.out, flatK_append]; exact HO9.out, hb9'⟩
                      case measure => simp [intOf]; omega
                  · have e2 : rst gs names i = ordRaw gs names := by rw [show i = gs.length by omega]; exact rst_all
                    have HO' : Hid (OwnG wr W0.heap.size A2 k2 c2 (ordRaw gs names)) := Lib.hid (e2 ▸ HO.out)
                    have hk3 : (ordRaw gs names).length = k2 := HO'.out.len
                    obtain ⟨hok1, hok2, hok3⟩ := HOK.out
                    obtain ⟨hnd, hbd0⟩ := grp_ok hok3
                    have HBD := Lib.hid (show ∀ g ∈ gs, 1 ≤ g.lo ∧ g.lo ≤ g.hi ∧ g.hi < 65502 from fun g hg => by have := hbd0 g hg; omega)
                    have HMEM := Lib.hid (fun g hg => HBD.out g (raw_mem H6'.out hg))
                    have HE0 := Lib.hid (O0'.out H6'.out H5'.out)
                    have HOUT := Lib.hid (OUT1.out HE0.out)
                    have HRL := Lib.hid (show k2 = gs.length from by rw [← hk3]; exact raw_len hnd H5'.out H6'.out)
                    clear HO e2 hok1 hok2 hok3 hnd hbd0 OUT0 OUT1 O0' O5' O6' FIN HOK
                    go_wp2
                    obtain rfl : k2 = gs.length := HRL.out
                    by_cases hne : gs.length = 0
                    · have hg0 : gs = [] := List.eq_nil_of_length_eq_zero hne
                      have hn0 : names = [] := by
                        cases hnm : names with
                        | nil => rfl
                        | cons s r =>
                          have := H6'.out s (by rw [hnm]; exact List.mem_cons_self ..)
                          rw [hg0] at this; cases this
                      have HOO := Lib.hid (show ordOut c names = [] by rw [HOUT.out, hg0, hn0]; rfl)
                      have e0 : (gs.length : Int) = 0 := by omega
                      rw [hne]
                      clear hg0 hn0 e0
                      refine wp_loop_rounds 1 ?_
                      rw [rounds_succ]
                      go_wp2
                      go_ret2
                      rw [HOO.out, HE0.out]
                      exact ⟨A2, c2, rfl, Nat.zero_le _, Sl.nil _ _, B0.trans (hb.mono B0.size)⟩
                    · obtain ⟨g, hA7, hgb, hc7⟩ : ∃ g, A2 = some ⟨g, 0, none⟩ ∧ W0.heap.size ≤ g ∧ gs.length ≤ c2 := by
                        rcases HO'.out.2 with ⟨_, h0⟩ | ⟨g, cap, cur, hv, hbg, _, hcc, _⟩
                        · exact absurd h0 hne
                        · injection hv with hA _ hc; exact ⟨g, hA, hbg, by omega⟩
                      subst hA7
                      have HR8 : Hid (GRow wr W0.heap.size g gs.length c2 (ordRaw gs names)) := HO'
                      obtain ⟨lo0, hlo0⟩ : ∃ lo0, firstLo gs = lo0 := ⟨_, rfl⟩
                      have HLO := Lib.hid hlo0
                      have hg0 : 0 < gs.length := by omega
                      have hlo1 : gs[0].lo = lo0 := (firstLo_get hg0).trans hlo0
                      have hlob := HBD.out gs[0] (List.getElem_mem hg0)
                      rw [hlo1] at hlob
                      have HLO1 := Lib.hid hlo1
                      generalize hraw : ordRaw gs names = raw at *
                      have HRW := Lib.hid hraw
                      have HLN := Lib.hid hk3
                      clear hlo0 hlo1 hraw HO' hk3
                      go_loopw [12, 13] (fun u _ wr => ∃ i : Nat, i ≤ gs.length ∧ u = .int .i64 i ∧ GRow wr W0.heap.size g gs.length c2 (half lo0 raw i) ∧ Below W0.heap.size W0 wr) (fun u _ _ => gs.length - (intOf u).toNat)
                      case atStart => exact ⟨0, Nat.zero_le _, rfl, by simpa [half, relo] using HR8.out, hb⟩
                      case round =>
                        clear f1
                        obtain ⟨i, hi, rfl, hR, hb⟩ := hrel
                        have HR := Lib.hid hR
                        clear hR HR8
                        by_cases hlt : i < gs.length
                        · have hrw : i < raw.length := by have := HLN.out; omega
                          have HX := Lib.hid (half_get lo0 raw i hrw)
                          have HHS := Lib.hid (half_succ lo0 raw i hrw)
                          have HPV := Lib.hid (half_prev lo0 raw i hrw)
                          have hnb := nextLo_bd lo0 (raw.take i) (fun y hy => HMEM.out y (List.mem_of_mem_take hy))
                          have hxb := HMEM.out raw[i] (List.getElem_mem hrw)
                          have hn0 : i = 0 → nextLo lo0 (raw.take i) = lo0 := fun e => by rw [e]; rfl
                          have hlt8 : (raw.take i).length ≤ 19 := by rw [List.length_take]; omega
                          generalize nextLo lo0 (raw.take i) = nx at *
                          generalize hgi : raw[i] = gi at *
                          obtain ⟨xn, xlo, xhi⟩ := gi
                          dsimp only at *
                          obtain ⟨x1, x2, x3⟩ := HR.out.cells HX.out
                          dsimp only at x1 x2 x3
                          have q1 : IntKind.i64.wrap (nx + xhi) = nx + xhi := IntWalk.i64_in _ (by omega)
                          have q2 : IntKind.i64.wrap (nx + xhi - xlo) = nx + xhi - xlo := IntWalk.i64_in _ (by omega)
                          have q4 : (i : Int) < (gs.length : Int) := by omega
                          obtain ⟨b1, o1, rfl, hbl, hcell⟩ := (HG0.out.below hb).at hg0
                          obtain ⟨c1, c2', c3⟩ := hcell 0 hg0
                          rw [HLO1.out] at c2'
                          have f1 := (hb.cell (p := ⟨w.heap.size, 1, none⟩) hx0).trans K.out
                          have hgp : (0 : Int) < (gs.length : Int) := by omega
                          simp only [Nat.zero_mul, Nat.add_zero] at c1 c2' c3
                          have fr := HR.out.frozen
                          clear hgi hcell
                          by_cases hi0 : i = 0
                          · have hn1 := hn0 hi0
                            have hi1 : ¬ (0 : Int) < (i : Int) := by omega
                            subst hn1
                            clear hn0 hi0 HPV
                            go_wp2
                            go_region
                            have st := HR.out.set (i := i) (by have := HR.out.len; omega) ⟨xn, nx, nx + xhi - xlo⟩
                            have hbs := below_grown hb st.2 (by omega) hb.size
                            have HST := Lib.hid st.1
                            dsimp only at HST hbs
                            clear st fr
                            obtain ⟨Wb, hWb⟩ : ∃ Wb, ((wr.setCell ⟨g, i * 3, none⟩ (.string xn)).setCell ⟨g, i * 3 + 1, none⟩ (.int .i64 nx)).setCell ⟨g, i * 3 + 2, none⟩ (.int .i64 (nx + xhi - xlo)) = Wb := ⟨_, rfl⟩
                            rw [hWb] at HST hbs ⊢
                            clear hWb
                            go_wp2
                            go_roundw
                            case rel => exact ⟨i + 1, by omega, by go_num, by rw [← HHS.out]; exact HST.out.drew, hbs.drew⟩
                            case measure => simp [intOf]; omega
                          · obtain ⟨y, hy, hy2⟩ := HPV.out (by omega)
                            obtain ⟨yn, ylo, yhi⟩ := y
                            obtain ⟨y1, y2, y3⟩ := HR.out.cells hy
                            dsimp only at y1 y2 y3 hy2
                            have hi1 : decide ((0 : Int) < (i : Int)) = true := by simp; omega
                            have j1 : IntKind.i64.wrap ((i : Int) - 1) = (i : Int) - 1 := IntWalk.i64_in _ (by omega)
                            have j2 : (0 : Int) ≤ (i : Int) - 1 := by omega
                            have j3 : ((i : Int) - 1).toNat = i - 1 := by omega
                            have j4 : (i : Int) - 1 < (gs.length : Int) := by omega
                            have j5 : IntKind.i64.wrap (yhi + 1) = nx := by rw [hy2]; exact IntWalk.i64_in _ (by omega)
                            clear hn0 hi0 HPV hy2 hy y1 y2
                            go_wp2
                            go_region
                            have st := HR.out.set (i := i) (by have := HR.out.len; omega) ⟨xn, nx, nx + xhi - xlo⟩
                            have hbs := below_grown hb st.2 (by omega) hb.size
                            have HST := Lib.hid st.1
                            dsimp only at HST hbs
                            clear st fr
                            obtain ⟨Wb, hWb⟩ : ∃ Wb, ((wr.setCell ⟨g, i * 3, none⟩ (.string xn)).setCell ⟨g, i * 3 + 1, none⟩ (.int .i64 nx)).setCell ⟨g, i * 3 + 2, none⟩ (.int .i64 (nx + xhi - xlo)) = Wb := ⟨_, rfl⟩
                            rw [hWb] at HST hbs ⊢
                            clear hWb
                            go_wp2
                            go_roundw
                            case rel => exact ⟨i + 1, by omega, by go_num, by rw [← HHS.out]; exact HST.out.drew, hbs.drew⟩
                            case measure => simp [intOf]; omega
                        · have HF := Lib.hid (half_all lo0 raw i (by have := HLN.out; omega))
                          go_wp2
                          go_ret2
                          rw [HOUT.out, HE0.out]
                          unfold ordG
                          rw [HLO.out, HRW.out]
                          have h1 := HR.out
                          rw [HF.out] at h1
                          refine ⟨some ⟨g, 0, none⟩, c2, ?_, ?_, Sl.of_own h1, B0.trans (hb.mono B0.size)⟩
                          · exact congrArg (fun k => Ending.returned (.tuple #[.slice (some ⟨g, 0, none⟩) k c2, .int .i64 0])) (show gs.length = (relo lo0 raw).length by rw [relo_len, HLN.out])
                          · rw [relo_len, HLN.out]; exact hc7
  · have c1 : (colErr c != 0) = true := by simpa using hce
    have HQ := Lib.hid (FIN.out _ W1 (B0.trans (hb1.mono B0.size)) (OC.out hce) hce)
    generalize colErr c = ce at *
    go_wp2_with fail
    go_ret2
    exact HQ.out

end Go.Proofs.Ytnfnoefjgiojoaa
