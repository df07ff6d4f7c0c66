/- The contract of groups.Of. Written by gen_of.py. -/
import Derived.Test.YtnfnoefjgiojoaaOfPlain
import Derived.Test.YtnfnoefjgiojoaaMove
import Derived.Test.YtnfnoefjgiojoaaNames
namespace Go.Proofs.Ytnfnoefjgiojoaa
open Go.RowKit Go.Maps Go.WideMaps

/-- all blocks but U are as they were -/
def KeepM (U : Nat) (w w' : World) : Prop := w.heap.size ≤ w'.heap.size ∧ ∀ b, b < w.heap.size → b ≠ U → w'.heap[b]? = w.heap[b]?
section
variable {U : Nat} {a b c : World}
theorem KeepM.refl (U : Nat) (a : World) : KeepM U a a := ⟨Nat.le_refl _, fun _ _ _ => rfl⟩
theorem KeepM.below (h : KeepM U a b) (hb : Below b.heap.size b c) : KeepM U a c := ⟨Nat.le_trans h.1 hb.size, fun q hq hn => (hb.block q (Nat.lt_of_lt_of_le hq h.1)).trans (h.2 q hq hn)⟩
theorem KeepM.grown (h : KeepM U a b) (hg : b.grownBy c (some U)) : KeepM U a c := ⟨Nat.le_trans h.1 hg.size, fun q hq hn => (hg.block q (Nat.lt_of_lt_of_le hq h.1) (fun e => hn (by injection e))).trans (h.2 q hq hn)⟩
theorem KeepM.sl {A : Option Addr} {cs : List Value} (h : KeepM U a b) (hU : ∀ o, a.cell? ⟨U, o, none⟩ = none) (hs : Sl a A cs) : Sl b A cs := fun hne => by
  obtain ⟨q, o, rfl, hc⟩ := hs hne
  refine ⟨q, o, rfl, fun j u hu => ?_⟩
  have h1 := hc j u hu
  have hq : q ≠ U := fun e => by rw [e, hU] at h1; cases h1
  exact (World.cell?_of_block (h.2 q (World.block_lt_of_cell? a _ h1) hq)).trans h1
end
theorem MapIs.nocell {κ : Type} {P : Program} {k : TypeId} {kl : κ → Lit} {ok : κ → Prop} {w : World} {b n : Nat} {f : κ → Option Value} (h : MapIs P k kl ok w b n f) (o : Nat) : w.cell? ⟨b, o, none⟩ = none := by
  obtain ⟨D, ⟨es, clock, h1, _⟩, _⟩ := h
  simp [World.cell?, h1]
theorem of_bad {c : Col} {text : List Int} (h : ¬ colErr c = 0) : ofN c text = [] := by unfold ofN; rw [if_neg h]
theorem of_ok {c : Col} {text : List Int} (h : colErr c = 0) : ofN c text = pickN c.grps (fun g => decide (g.name ∈ usedN c text)) := by unfold ofN; rw [if_pos h]
theorem setF_ext {l l' : List ByteArray} (h : l = l') (s : ByteArray) : setF l s = setF l' s := by rw [h]

set_option maxRecDepth 100000 in
set_option maxHeartbeats 6400000 in
theorem Of_any (A : Option Addr) (n a : Nat) (B : Option Addr) (m b : Nat) (c : Col) (C : Option Addr) (kn kc : Nat) (text : List Int) (w : World) (h : ColAt w A n B m c) (hz : ColSz c)
    (hC : Ints w C text) (hkn : text.length = kn) (hk2 : kn ≤ 1048576) (hwf : ∀ z ∈ text, (Lit.int .i64 z).wf = true) :
    Calls Try.prog 25 #[colV A n a B m b c, .slice C kn kc] w (RetStrs (ofN c text) w) := by
  have B0 : Below w.heap.size w (w.alloc (.cells #[.slice A n a, .slice B m b, .int .i64 c.base, .int .i64 c.second, .int .i64 c.third] 25)) := (Below.refl _ _).alloc (Nat.le_refl _) _
  have s0 : (w.alloc (.cells #[.slice A n a, .slice B m b, .int .i64 c.base, .int .i64 c.second, .int .i64 c.third] 25)).heap.size = w.heap.size + 1 := by simp
  have k0 : (w.alloc (.cells #[.slice A n a, .slice B m b, .int .i64 c.base, .int .i64 c.second, .int .i64 c.third] 25)).cell? ⟨w.heap.size, 0, none⟩ = some (.slice A n a) := by simp
  have k1 : (w.alloc (.cells #[.slice A n a, .slice B m b, .int .i64 c.base, .int .i64 c.second, .int .i64 c.third] 25)).cell? ⟨w.heap.size, 1, none⟩ = some (.slice B m b) := by simp
  have k2 : (w.alloc (.cells #[.slice A n a, .slice B m b, .int .i64 c.base, .int .i64 c.second, .int .i64 c.third] 25)).cell? ⟨w.heap.size, 2, none⟩ = some (.int .i64 c.base) := by simp
  have k3 : (w.alloc (.cells #[.slice A n a, .slice B m b, .int .i64 c.base, .int .i64 c.second, .int .i64 c.third] 25)).cell? ⟨w.heap.size, 3, none⟩ = some (.int .i64 c.second) := by simp
  have k4 : (w.alloc (.cells #[.slice A n a, .slice B m b, .int .i64 c.base, .int .i64 c.second, .int .i64 c.third] 25)).cell? ⟨w.heap.size, 4, none⟩ = some (.int .i64 c.third) := by simp
  have W0E : ∃ W0, (w.alloc (.cells #[.slice A n a, .slice B m b, .int .i64 c.base, .int .i64 c.second, .int .i64 c.third] 25)) = W0 := ⟨_, rfl⟩
  have CK := Lib.hid (fun W (hb : Below w.heap.size w W) => ckColl_any A n a B m b c W (h.below hb) hz)
  have FC := Lib.hid (fun (he : colErr c = 0) W (hb : Below w.heap.size w W) C' z (hC' : Ints W C' [z]) (hzz : (Lit.int .i64 z).wf = true) => Find_ok A n a B m b c C' 1 1 [z] W (h.below hb) hz he hC' rfl (by omega) (by simpa using hzz))
  have CC := Lib.hid (fun W (hb : Below w.heap.size w W) x => containing_any B m b c.grps x W (h.below hb).grps h.hm (by have := hz.m; have := h.hm; omega))
  have HTX := Lib.hid hC
  have HWF := Lib.hid hwf
  have HG := Lib.hid h.grps
  have hm := h.hm
  have hmz := hz.m
  have HSZ := Lib.hid h.hs
  have OB := Lib.hid (of_bad (c := c) (text := text))
  have OK := Lib.hid (of_ok (c := c) (text := text))
  have LL := Lib.hid (fun (he : colErr c = 0) z => (last_len he [z] : (elsOf c z).length ≤ 16))
  have hmm := @run_makeMap Try.prog
  clear h hz hC hwf
  unfold colV at *
  generalize ofN c text = R at *
  subst hkn
  subst hm
  go_enter Try.func25, Try.ntmps25
  go_wp2_with fail
  obtain ⟨W0, hW0⟩ := W0E
  rw [hW0] at B0 s0 k0 k1 k2 k3 k4 ⊢
  clear hW0
  have hx0 : w.heap.size < W0.heap.size := by omega
  with_reducible refine (CK.out W0 B0).mono ?_
  rintro e W1 ⟨rfl, hb1⟩
  have hb2 := B0.trans (hb1.mono B0.size)
  clear CK
  by_cases he : colErr c = 0
  rotate_left
  · have q1 : (colErr c != 0) = true := by simpa using he
    obtain rfl := OB.out he
    clear OB OK he FC LL
    generalize colErr c = er at *
    go_wp2_with fail
    go_ret
    exact ⟨none, 0, rfl, Nat.le_refl _, Sl.nil _ _, hb2⟩
  have q1 : (colErr c != 0) = false := by simpa using he
  have HR := Lib.hid (OK.out he)
  have FC2 := Lib.hid (FC.out he)
  have LL2 := Lib.hid (LL.out he)
  clear OB OK he FC LL
  generalize colErr c = er at *
  have hx1 : w.heap.size < W1.heap.size := by have := hb1.size; omega
  have f0 := (hb1.cell (p := ⟨w.heap.size, 0, none⟩) hx0).trans k0
  have f1 := (hb1.cell (p := ⟨w.heap.size, 1, none⟩) hx0).trans k1
  have f2 := (hb1.cell (p := ⟨w.heap.size, 2, none⟩) hx0).trans k2
  have f3 := (hb1.cell (p := ⟨w.heap.size, 3, none⟩) hx0).trans k3
  have f4 := (hb1.cell (p := ⟨w.heap.size, 4, none⟩) hx0).trans k4
  have KEEP := Lib.hid (show ∀ W', Below W1.heap.size W1 W' → W'.cell? ⟨w.heap.size, 0, none⟩ = some (.slice A n a) ∧ W'.cell? ⟨w.heap.size, 1, none⟩ = some (.slice B c.grps.length b) ∧ W'.cell? ⟨w.heap.size, 2, none⟩ = some (.int .i64 c.base) ∧ W'.cell? ⟨w.heap.size, 3, none⟩ = some (.int .i64 c.second) ∧ W'.cell? ⟨w.heap.size, 4, none⟩ = some (.int .i64 c.third) from fun W' hb => ⟨(hb.cell (p := ⟨w.heap.size, 0, none⟩) hx1).trans f0, (hb.cell (p := ⟨w.heap.size, 1, none⟩) hx1).trans f1, (hb.cell (p := ⟨w.heap.size, 2, none⟩) hx1).trans f2, (hb.cell (p := ⟨w.heap.size, 3, none⟩) hx1).trans f3, (hb.cell (p := ⟨w.heap.size, 4, none⟩) hx1).trans f4⟩)
  have B2 : Below W1.heap.size W1 (W1.alloc (.map #[] 0)) := (Below.refl _ _).alloc (Nat.le_refl _) _
  have M2 := MapIs.made Try.prog 9 skey sok W1
  have s2 : (W1.alloc (.map #[] 0)).heap.size = W1.heap.size + 1 := by simp
  have W2E : ∃ W2, W1.alloc (.map #[] 0) = W2 := ⟨_, rfl⟩
  clear k0 k1 k2 k3 k4 f0 f1 f2 f3 f4
  go_wp2_with fail
  obtain ⟨W2, hW2⟩ := W2E
  rw [hW2] at B2 M2 s2 ⊢
  clear hW2 hmm
  have HM2 := Lib.hid M2
  clear M2
  go_loopw [23] (fun u wr => ∃ i nn : Nat, i ≤ text.length ∧ u = .int .i64 i ∧ nn ≤ i * 16 ∧ MapS Try.prog 9 wr W1.heap.size nn (setF (usedN c (text.take i))) ∧ Below W1.heap.size W1 wr ∧ W2.heap.size ≤ wr.heap.size) (fun u _ => text.length - (intOf u).toNat)
  case atStart => exact ⟨0, 0, Nat.zero_le _, rfl, Nat.zero_le _, HM2.out.ext (fun x _ => by simp [usedN, setF]), B2, Nat.le_refl _⟩
  case round =>
    obtain ⟨i, nn, hi, rfl, hnn, hM, hbr, hsr⟩ := hrel
    have HM := Lib.hid hM
    clear hM HM2
    have hbw := hb2.trans (hbr.mono hb2.size)
    have hx2 : w.heap.size < wr.heap.size := by have := hbr.size; omega
    by_cases hlt : i < text.length
    · obtain ⟨bt, ot, rfl, hct⟩ := (HTX.out.below hbw).at hlt
      have ct := hct i hlt
      have hbt := World.block_lt_of_cell? wr _ ct
      have hwx := HWF.out text[i] (List.getElem_mem hlt)
      have HU := Lib.hid (usedN_take (c := c) hlt)
      have hll := LL2.out text[i]
      obtain ⟨f0, f1, f2, f3, f4⟩ := KEEP.out wr hbr
      clear hct
      generalize text[i] = x at *
      have Bb : Below wr.heap.size wr (wr.alloc (.cells #[.int .i64 x] 3)) := (Below.refl _ _).alloc (Nat.le_refl _) _
      have Ib := Ints_new wr [x] 3 rfl
      have HFC := Lib.hid (FC2.out (wr.alloc (.cells #[.int .i64 x] 3)) (hbw.trans (Bb.mono hbw.size)) (some ⟨wr.heap.size, 0, none⟩) x Ib hwx)
      have sb : (wr.alloc (.cells #[.int .i64 x] 3)).heap.size = wr.heap.size + 1 := by simp
      have WbE : ∃ Wb, wr.alloc (.cells #[.int .i64 x] 3) = Wb := ⟨_, rfl⟩
      clear Ib
      go_wp2_with fail
      obtain ⟨Wb, hWb⟩ := WbE
      rw [hWb] at Bb sb HFC ⊢
      clear hWb ct f0 f1 f2 f3 f4
      with_reducible refine HFC.out.mono ?_
      rintro e W3 ⟨E, d, rfl, hE, hb3⟩
      have HEL := Lib.hid hE
      have Bc := Bb.trans (hb3.mono Bb.size)
      have HM3 := Lib.hid (HM.out.below Bc)
      have HNC := Lib.hid HM3.out.nocell
      have hb4 := hbr.trans (Bc.mono hbr.size)
      have hs3 : wr.heap.size ≤ W3.heap.size := Bc.size
      clear HFC hE
      change (elsOf c x).length ≤ 16 at hll
      have HELX := Lib.hid (show Elts W3 E (elsOf c x) from HEL.out)
      have hlen : ((lastE c.ents [x]).getD []).length = (elsOf c x).length := rfl
      rw [hlen]
      clear HEL hlen
      generalize (lastE c.ents [x]).isSome = isx at *
      generalize elsOf c x = els at *
      obtain ⟨wr0, rfl⟩ : ∃ wr0 : World, wr0 = wr := ⟨_, rfl⟩
      go_wp2_with fail
      go_loopw [36] (fun u wr => ∃ k nm : Nat, k ≤ els.length ∧ u = .int .i64 k ∧ nm ≤ i * 16 + k ∧ MapS Try.prog 9 wr W1.heap.size nm (setF (usedN c (text.take i) ++ grpN c (els.take k))) ∧ Below W1.heap.size W1 wr ∧ KeepM W1.heap.size W3 wr) (fun u _ => els.length - (intOf u).toNat)
      case atStart => exact ⟨0, nn, Nat.zero_le _, rfl, by omega, HM3.out.ext (fun s _ => setF_ext (by simp [grpN]) s), hb4, KeepM.refl _ _⟩
      case round =>
        obtain ⟨k, nm, hk, rfl, hnm, hMq, hbq, hKq⟩ := hrel
        have HMQ := Lib.hid hMq; have HKQ := Lib.hid hKq
        have hsq : W3.heap.size ≤ wr.heap.size := hKq.1
        clear hMq hKq
        have hbqw := hb2.trans (hbq.mono hb2.size)
        have hx5 : w.heap.size < wr.heap.size := by omega
        have hx6 : ¬ w.heap.size = wr.heap.size := by omega
        by_cases hltk : k < els.length
        · obtain ⟨b5, o5, rfl, hbl5, hc5⟩ := (show Elts wr E els from HKQ.out.sl HNC.out HELX.out).at hltk
          obtain ⟨c0, c1, c2, c3⟩ := hc5 k hltk
          have HGT := Lib.hid (grpN_take (c := c) hltk)
          obtain ⟨f0, f1, f2, f3, f4⟩ := KEEP.out wr hbq
          have hn5 : ¬ b5 = wr.heap.size := by omega
          clear hc5 f0 f2 f3 f4
          generalize els[k] = el at *
          obtain ⟨ep, es, et, ev⟩ := el
          dsimp only at *
          have Bd : Below wr.heap.size wr (wr.alloc (.cells #[.int .i64 ep, .int .i64 es, .int .i64 et, .bool ev] 51)) := (Below.refl _ _).alloc (Nat.le_refl _) _
          have HCC := Lib.hid (CC.out (wr.alloc (.cells #[.int .i64 ep, .int .i64 es, .int .i64 et, .bool ev] 51)) (hbqw.trans (Bd.mono hbqw.size)) ep)
          have sd : (wr.alloc (.cells #[.int .i64 ep, .int .i64 es, .int .i64 et, .bool ev] 51)).heap.size = wr.heap.size + 1 := by simp
          have WdE : ∃ Wd, wr.alloc (.cells #[.int .i64 ep, .int .i64 es, .int .i64 et, .bool ev] 51) = Wd := ⟨_, rfl⟩
          go_wp2_with fail
          obtain ⟨Wd, hWd⟩ := WdE
          rw [hWd] at Bd sd HCC ⊢
          clear hWd f1 c0 c1 c2 c3
          with_reducible refine HCC.out.mono ?_
          clear HCC
          have HSG := Lib.hid (fun g (hg : conG c.grps ep = some g) => HSZ.out g (conG_mem hg).1)
          cases hcg : conG c.grps ep with
          | none =>
            rw [hcg] at HGT
            rintro e w9 ⟨rfl, hb9⟩
            unfold conV
            have Be := Bd.trans (hb9.mono Bd.size)
            have Bf := Be.trans (((Below.refl w9.heap.size w9).alloc (Nat.le_refl _) (.cells #[.string .empty, .int .i64 0, .int .i64 0] 36)).mono Be.size)
            have HM9 := Lib.hid (HMQ.out.below Bf)
            have HK9 := Lib.hid (HKQ.out.below Bf)
            clear HMQ HKQ HSG hcg
            go_wp2_with fail
            go_roundw
            case rel =>
              refine ⟨k + 1, nm, by omega, by go_num, by omega, ?_, hbq.trans (Bf.mono hbq.size), HK9.out⟩
              rw [HGT.out]
              simpa using HM9.out
            case measure => simp [intOf]; omega
          | some g =>
            rw [hcg] at HGT
            have hss := HSG.out g hcg
            rintro e w9 ⟨rfl, hb9⟩
            unfold conV gv
            have Be := Bd.trans (hb9.mono Bd.size)
            have Bf := Be.trans (((Below.refl w9.heap.size w9).alloc (Nat.le_refl _) (.cells #[.string g.name, .int .i64 g.lo, .int .i64 g.hi] 36)).mono Be.size)
            have HM9 := Lib.hid (HMQ.out.below Bf)
            have HK9 := Lib.hid (HKQ.out.below Bf)
            have HP := Lib.hid (fun s => setF_put (usedN c (text.take i) ++ grpN c (els.take k)) g.name s)
            have hbf := hbq.trans (Bf.mono hbq.size)
            clear HMQ HKQ HSG hcg
            go_wp2_with (at_mapUpdate; refine wpList_mput rfl _ _ _ 75 rfl HM9.out law_str Try.underlying75 (by unfold maxLen; omega) rfl rfl rfl (sok_of hss) (key_str hss) (fun y _ e => skey_inj e) ?_; intro w10 hM10 hg10; have HM10 := Lib.hid hM10; have HG10 := Lib.hid hg10; clear hM10 hg10)
            go_roundw
            case rel =>
              refine ⟨k + 1, nm + 1, by omega, by go_num, by omega, ?_, below_grown hbf HG10.out (Nat.le_refl _) hbf.size, HK9.out.grown HG10.out⟩
              rw [HGT.out, ← List.append_assoc]
              exact HM10.out.ext (fun s _ => HP.out s)
            case measure => simp [intOf]; omega
        · have hml := HMQ.out
          rw [List.take_of_length_le (show els.length ≤ k by omega), ← HU.out] at hml
          have HML := Lib.hid hml
          clear hml HMQ
          go_wp2_with fail
          go_roundw
          case rel => exact ⟨i + 1, nm, by omega, by go_num, by omega, HML.out, hbq, by omega⟩
          case measure => simp [intOf]; omega
    · have hml := HM.out
      rw [List.take_of_length_le (show text.length ≤ i by omega)] at hml
      have HML := Lib.hid hml
      clear hml HM
      obtain ⟨W5, rfl⟩ : ∃ W5 : World, W5 = wr := ⟨_, rfl⟩
      obtain ⟨f0, f1, f2, f3, f4⟩ := KEEP.out W5 hbr
      have HN := Lib.hid (show W5.ownsRow W5.heap.size 9 1 (.slice none 0 0) 0 ([] : List Value) from World.ownsRow_nil _ _ _ _)
      have HG5 := Lib.hid (HG.out.below hbw)
      clear f0 f2 f3 f4 KEEP
      generalize usedN c text = un at *
      generalize c.grps = gs at *
      go_wp2_with fail
      clear f1
      go_loopw [14, 57] (fun v u wr => ∃ (i : Nat) (S : Option Addr) (k : Nat), i ≤ gs.length ∧ u = .int .i64 i ∧ v = .slice S (pickN (gs.take i) (fun g => decide (g.name ∈ un))).length k ∧ wr.ownsRow W5.heap.size 9 1 (.slice S (pickN (gs.take i) (fun g => decide (g.name ∈ un))).length k) (pickN (gs.take i) (fun g => decide (g.name ∈ un))).length ((pickN (gs.take i) (fun g => decide (g.name ∈ un))).map Value.string) ∧ (pickN (gs.take i) (fun g => decide (g.name ∈ un))).length ≤ i ∧ Below W5.heap.size W5 wr) (fun _ u _ => gs.length - (intOf u).toNat)
      case atStart => exact ⟨0, none, 0, Nat.zero_le _, rfl, rfl, HN.out, Nat.le_refl _, Below.refl _ _⟩
      case round =>
        obtain ⟨i, S, k, hi, rfl, rfl, hown, hpl, hb6⟩ := hrel
        have HOWN := Lib.hid hown
        clear hown HN
        by_cases hlt : i < gs.length
        · obtain ⟨b1, o1, rfl, hbl, hcell⟩ := (HG5.out.below hb6).at hlt
          obtain ⟨c1, c2, c3⟩ := hcell i hlt
          have hss := HSZ.out gs[i] (List.getElem_mem hlt)
          have HPT := Lib.hid (pickN_take (p := fun g => decide (g.name ∈ un)) hlt)
          clear hcell
          generalize gs[i] = gi at *
          obtain ⟨nmi, lo, hi'⟩ := gi
          dsimp only at *
          have Bp : Below wr.heap.size wr (wr.alloc (.cells #[.string nmi, .int .i64 lo, .int .i64 hi'] 36)) := (Below.refl _ _).alloc (Nat.le_refl _) _
          have HMQ := Lib.hid ((HML.out.below hb6).below Bp)
          by_cases hin : nmi ∈ un
          · have HV := Lib.hid (setF_yes hin)
            have hpt := HPT.out
            rw [if_pos (by simpa using hin)] at hpt
            have HPQ := Lib.hid hpt
            have Bq : Below wr.heap.size wr ((wr.alloc (.cells #[.string nmi, .int .i64 lo, .int .i64 hi'] 36)).alloc (.cells #[.string nmi] 9)) := Bp.alloc (by simp) _
            have HOP := Lib.hid (own_keep HOWN.out Bq)
            have szp : W5.heap.size ≤ ((wr.alloc (.cells #[.string nmi, .int .i64 lo, .int .i64 hi'] 36)).alloc (.cells #[.string nmi] 9)).heap.size := Nat.le_trans hb6.size Bq.size
            have hb9 := hb6.trans (Bq.mono hb6.size)
            clear Bp Bq hin hpt HPT HOWN
            generalize hLL : pickN (gs.take i) (fun g => decide (g.name ∈ un)) = LL at *
            have HLL := Lib.hid hLL
            clear hLL
            go_wp2_with (first
              | (at_lookup; refine wpList_look rfl _ _ 75 rfl HMQ.out law_str Try.underlying75 (zero_bool _) rfl rfl (sok_of hss) (key_str hss) ?_; rw [HV.out])
              | (at_builtin; refine wpList_app _ _ 26 9 (.string .empty) 1 16 rfl rfl Try.underlying26 info_str rfl (by decide) (by decide) rfl HOP.out rfl (Sl_new _ [.string nmi] _ (by simp)) rfl (by intro u hu; simp at hu; rw [hu]; rfl) (by omega) szp ?_; intro A7 c7 w7 hown7 hc7 hb7 hgr7 hAA7; clear hgr7 hAA7; have HO7 := Lib.hid hown7; clear hown7))
            go_roundw
            case rel =>
              have e1 : LL.length + 1 = (pickN (gs.take (i + 1)) (fun g => decide (g.name ∈ un))).length := by rw [HPQ.out, List.length_append]; rfl
              refine ⟨i + 1, A7, c7, by omega, by go_num, ?_, ?_, by omega, hb9.trans hb7⟩
              · rw [e1]
              · rw [← e1, HPQ.out, List.map_append]; exact HO7.out
            case measure => simp [intOf]; omega
          · have HV := Lib.hid (setF_no hin)
            have hpt := HPT.out
            rw [if_neg (by simpa using hin), List.append_nil] at hpt
            have HPQ := Lib.hid hpt
            have HOP := Lib.hid (own_keep HOWN.out Bp)
            have hb9 := hb6.trans (Bp.mono hb6.size)
            clear Bp hin hpt HPT HOWN
            generalize hLL : pickN (gs.take i) (fun g => decide (g.name ∈ un)) = LL at *
            clear hLL
            go_wp2_with (at_lookup; refine wpList_look rfl _ _ 75 rfl HMQ.out law_str Try.underlying75 (zero_bool _) rfl rfl (sok_of hss) (key_str hss) ?_; rw [HV.out])
            go_roundw
            case rel => exact ⟨i + 1, S, k, by omega, by go_num, by rw [HPQ.out], by rw [HPQ.out]; exact HOP.out, by rw [HPQ.out]; omega, hb9⟩
            case measure => simp [intOf]; omega
        · have ho := HOWN.out
          rw [List.take_of_length_le (show gs.length ≤ i by omega), ← HR.out] at ho
          rw [List.take_of_length_le (show gs.length ≤ i by omega), ← HR.out]
          have HO := Lib.hid ho
          clear ho HOWN
          go_wp2_with fail
          go_ret
          obtain ⟨_, _, hv, hc⟩ := own_form HO.out
          injection hv with _ _ hv
          subst hv
          exact ⟨S, k, rfl, hc, Sl.of_own HO.out, hbw.trans (hb6.mono hbw.size)⟩

end Go.Proofs.Ytnfnoefjgiojoaa
