/- The contract of the iterator that ordering.runs hands back: it yields the runs of a text in order. -/
import Derived.Test.YthagfcdleapooaaDoorClassB
import Derived.Test.YthagfcdleapooaaDoorRunsPlain
import Derived.RangeFuncNested
import Derived.RangeFuncBound
import Derived.RangeFuncCalls
import Derived.RangeFuncLeaves
import Derived.Shelf.Abstract
import Derived.Shelf.RegionOpen
import Derived.WalkKit
import Derived.OwnWalkIn
import Derived.TacticsInMore
import Derived.LoopNIn
import Derived.LoopIn
namespace Go.Proofs.YthagfcdleapooaaDoor
open Go.RowKit Go.Shelf
attribute [local go_sem] Oper.semAt_some

/-- below n₀ nothing but block bo has changed -/
def KeepX (n₀ bo : Nat) (W W' : World) : Prop := W.heap.size ≤ W'.heap.size ∧ ∀ k, k < n₀ → k ≠ bo → W'.heap[k]? = W.heap[k]?

theorem KeepX.refl (n₀ bo : Nat) (W : World) : KeepX n₀ bo W W := ⟨Nat.le_refl _, fun _ _ _ => rfl⟩
theorem KeepX.trans {n₀ bo : Nat} {A B C : World} (h : KeepX n₀ bo A B) (g : KeepX n₀ bo B C) : KeepX n₀ bo A C := ⟨Nat.le_trans h.1 g.1, fun k hk hne => (g.2 k hk hne).trans (h.2 k hk hne)⟩
theorem KeepX.cell {n₀ bo : Nat} {W W' : World} (h : KeepX n₀ bo W W') {p : Addr} (h1 : p.block < n₀) (h2 : p.block ≠ bo) : W'.cell? p = W.cell? p := World.cell?_of_block (w := W) (h.2 p.block h1 h2)

/-- the slice at A, if it holds something, lies below n₀ and not in block bo -/
def Within (n₀ bo : Nat) (A : Option Addr) : Prop := ∀ b o, A = some ⟨b, o, none⟩ → b < n₀ ∧ b ≠ bo

theorem Sl.keepX {n₀ bo : Nat} {W W' : World} {A : Option Addr} {cs : List Value} (h : Sl W A cs) (hk : KeepX n₀ bo W W') (hw : cs ≠ [] → Within n₀ bo A) : Sl W' A cs := by
  intro hne
  obtain ⟨b, o, rfl, hc⟩ := h hne
  obtain ⟨h1, h2⟩ := hw hne b o rfl
  exact ⟨b, o, rfl, fun j u hu => (hk.cell (p := ⟨b, o + j, none⟩) h1 h2).trans (hc j u hu)⟩

/-- what the iterator reads: the boxes of its two captured variables, the text and the spans -/
structure Mem (Bt Bs : Nat) (A : Option Addr) (nt kt : Nat) (text : List Int) (A' : Option Addr) (ns ks : Nat) (ss : List Spn) (W : World) : Prop where
  bt : W.cell? ⟨Bt, 0, none⟩ = some (.slice A nt kt)
  bs : W.cell? ⟨Bs, 0, none⟩ = some (.slice A' ns ks)
  tx : Ints W A text
  sp : Spans W A' ss

theorem Mem.below {Bt Bs : Nat} {A : Option Addr} {nt kt : Nat} {text : List Int} {A' : Option Addr} {ns ks : Nat} {ss : List Spn} {W W' : World} (h : Mem Bt Bs A nt kt text A' ns ks ss W) (hb : Below W.heap.size W W') : Mem Bt Bs A nt kt text A' ns ks ss W' :=
  ⟨(hb.cell (World.block_lt_of_cell? W _ h.bt)).trans h.bt, (hb.cell (World.block_lt_of_cell? W _ h.bs)).trans h.bs, h.tx.below hb, h.sp.below hb⟩

theorem Mem.keepX {n₀ bo Bt Bs : Nat} {A : Option Addr} {nt kt : Nat} {text : List Int} {A' : Option Addr} {ns ks : Nat} {ss : List Spn} {W W' : World} (h : Mem Bt Bs A nt kt text A' ns ks ss W) (hk : KeepX n₀ bo W W')
    (h1 : Bt < n₀ ∧ Bt ≠ bo) (h2 : Bs < n₀ ∧ Bs ≠ bo) (h3 : text ≠ [] → Within n₀ bo A) (h4 : ss ≠ [] → Within n₀ bo A') : Mem Bt Bs A nt kt text A' ns ks ss W' :=
  ⟨(hk.cell (p := ⟨Bt, 0, none⟩) h1.1 h1.2).trans h.bt, (hk.cell (p := ⟨Bs, 0, none⟩) h2.1 h2.2).trans h.bs, Sl.keepX h.tx hk (fun hne => h3 (by rintro rfl; exact hne rfl)), Sl.keepX h.sp hk (fun hne => h4 (by rintro rfl; exact hne rfl))⟩

/-- a range as it is yielded -/
def encR (x : Nat × Nat) : Array Value := #[.agg #[.int .i64 (x.1 : Int), .int .i64 (x.2 : Int)]]

theorem J_below {α : Type} {J : List α → World → Prop} {B : Nat} (h : AbidesFrom B J) {pre : List α} {W W' : World} (hJ : J pre W) (hb : Below W.heap.size W W') : J pre W' :=
  h pre W W' none hJ ⟨hb.os, hb.tape, hb.output, hb.size, fun k hk _ => hb.block k hk⟩ (fun r e => by cases e)

/-- what the iterator leaves: all runs have come, or a part of them -/
def RunsPost {α : Type} (all : List α) (J Jx : List α → World → Prop) (e : Ending) (W' : World) : Prop := (∃ v, e = .returned v) ∧ ((∃ ys, ys = all ∧ J ys W') ∨ (∃ pre, pre <+: all ∧ Jx pre W'))

set_option maxRecDepth 100000 in
set_option maxHeartbeats 4000000 in
theorem runs1_in {α : Type} (f : α → Nat × Nat) (n : Nat) (hn1 : 1 ≤ n) (l n₀ bo Bt Bs : Nat) (A : Option Addr) (nt kt : Nat) (text : List Int) (A' : Option Addr) (ns ks : Nat) (ss : List Spn) (all : List α)
    (hall : all.map f = rns (cls ss) text 0 none) (hnt : text.length = nt) (hns : ss.length = ns) (hb1 : nt ≤ 1099511627776) (hb2 : ns ≤ 1099511627776) (hasc : Asc ss)
    (h1 : Bt < n₀ ∧ Bt ≠ bo) (h2 : Bs < n₀ ∧ Bs ≠ bo) (h3 : text ≠ [] → Within n₀ bo A) (h4 : ss ≠ [] → Within n₀ bo A')
    (J Jx : List α → World → Prop) (B : Nat) (hJ : AbidesFrom B J)
    (hY : ∀ pre x W, J pre W → pre.length < all.length → YieldAt Fence.wide (n - 1) Tryd.prog l (encR (f x)) W fun e W' =>
      (e = .returned (.bool true) ∧ J (pre ++ [x]) W' ∧ KeepX n₀ bo W W') ∨ (e = .returned (.bool false) ∧ Jx (pre ++ [x]) W'))
    (W : World) (hM : Mem Bt Bs A nt kt text A' ns ks ss W) (h0 : J [] W) :
    CallsIn Fence.wide n Tryd.prog 44 #[.func (.yield l) #[] #[], .pointer (some ⟨Bt, 0, none⟩), .pointer (some ⟨Bs, 0, none⟩)] W (RunsPost all J Jx) := by
  subst hnt hns
  have HALL := Lib.hid hall; have HA := Lib.hid hasc; have HY := Lib.hid hY; have HJ := Lib.hid hJ
  have H3 := Lib.hid h3; have H4 := Lib.hid h4
  clear hall hasc hY hJ h3 h4
  have cbt := hM.bt; have cbs := hM.bs
  refine callsIn_of_wp Tryd.func44 rfl trivial ?_ rfl
  simp only [Tryd.ntmps44, List.size_toArray, List.length_cons, List.length_nil, Nat.reduceAdd, Nat.reduceSub, Array.replicate_succ, Array.replicate_zero, List.push_toArray, List.append_toArray, List.nil_append, List.cons_append]
  gi_wp2
  gi_loopw [4, 10] (fun u i wr => ∃ (k : Nat) (s : Option Nat) (pre rest : List α), k ≤ text.length ∧ i = .int .i64 k ∧ u = .int .i64 (stv s) ∧ (pre ++ rest = all ∧ rest.map f = rns (cls ss) (text.drop k) k s) ∧ (∀ x, s = some x → x ≤ k) ∧ J pre wr ∧ Mem Bt Bs A text.length kt text A' ss.length ks ss wr)
    (fun _ i _ => text.length - (intOf i).toNat)
  case atStart => exact ⟨0, none, [], all, Nat.zero_le _, rfl, rfl, ⟨rfl, HALL.out⟩, (fun _ h => by cases h), h0, hM⟩
  case round =>
    obtain ⟨k, s, pre, rest, hk, rfl, rfl, ⟨hpre, hrest⟩, hs, hJ1, hM1⟩ := hrel
    have HP := Lib.hid hpre; have HT := Lib.hid hrest; clear hrest; have HS := Lib.hid hs; clear hpre hs
    by_cases hlt : k < text.length
    · obtain ⟨b, o, rfl, hcell⟩ := hM1.tx.at hlt
      have c1 := hcell k hlt
      have c2 := hM1.bs
      clear hcell
      have HR := Lib.hid (rns_step (cls ss) text k hlt s)
      generalize text[k] = c at *
      gi_wp2_with fail
      refine ⟨trivial, (callsIn_wide.2 (class_any A' ss.length ks ss c wr hM1.sp rfl hb2 HA.out)).mono ?_⟩
      rintro e w1 ⟨rfl, hbw⟩
      have hM2 := hM1.below hbw
      have hJ2 := J_below HJ.out hJ1 hbw
      clear hM1 hJ1 hbw c1 c2
      by_cases hz : cls ss c = 0
      · have hzb : (cls ss c == 0) = true := by simpa using hz
        cases s with
        | none =>
          have HR' := Lib.hid (HR.out.trans (show _ = _ from if_pos hz))
          clear HR hz
          generalize cls ss c = z at *
          simp only [stv]
          gi_wp2
          go_roundw
          case rel => exact ⟨k + 1, none, pre, rest, by omega, by go_num, rfl, ⟨HP.out, HT.out.trans HR'.out⟩, (fun _ h => by cases h), hJ2, hM2⟩
          case measure => simp [intOf]; omega
        | some s =>
          have HR' := Lib.hid (HR.out.trans (show _ = _ from if_pos hz))
          clear HR hz
          generalize cls ss c = z at *
          simp only [stv]
          obtain ⟨x, rest', hx, hfx, hrest'⟩ : ∃ x rest', rest = x :: rest' ∧ f x = (s, k) ∧ rest'.map f = rns (cls ss) (text.drop (k + 1)) (k + 1) none := by
            have := HT.out.trans HR'.out
            cases rest with
            | nil => cases this
            | cons x r => simp only [List.map_cons, List.cons.injEq] at this; exact ⟨x, r, rfl, this.1, this.2⟩
          have HPX := Lib.hid (show (pre ++ [x]) ++ rest' = all by rw [← HP.out, hx]; simp)
          have HTX := Lib.hid hrest'
          have hlen : pre.length < all.length := by rw [← HP.out, hx]; simp
          have hy0 := HY.out pre x w1 hJ2 hlen
          rw [hfx] at hy0
          clear hx hfx hrest'
          unfold encR at hy0
          obtain ⟨fn, tmps, assign, body, hy, hR⟩ := hy0
          dsimp only at hy
          have HRR := Lib.hid hR
          clear hR hlen
          gi_wp2
          refine HRR.out.mono ?_
          rintro e W3 (⟨rfl, hJ3, hk3⟩ | ⟨rfl, hJx3⟩)
          · have hM3 := hM2.keepX hk3 h1 h2 H3.out H4.out
            clear hM2 hJ2 hy HRR
            gi_wp2
            go_roundw
            case rel => exact ⟨k + 1, none, pre ++ [x], rest', by omega, by go_num, rfl, ⟨HPX.out, HTX.out⟩, (fun _ h => by cases h), hJ3, hM3⟩
            case measure => simp [intOf]; omega
          · gi_wp2
            refine bodyPost_ret (results_none rfl _ _ _) rfl ?_
            exact ⟨⟨_, rfl⟩, .inr ⟨pre ++ [x], ⟨rest', HPX.out⟩, hJx3⟩⟩
      · have hzb : (cls ss c == 0) = false := by simpa using hz
        cases s with
        | none =>
          have HR' := Lib.hid (HR.out.trans (show _ = _ from if_neg hz))
          clear HR hz
          generalize cls ss c = z at *
          simp only [stv]
          gi_wp2
          go_roundw
          case rel => exact ⟨k + 1, some k, pre, rest, by omega, by go_num, rfl, ⟨HP.out, HT.out.trans HR'.out⟩, (fun x h => by cases h; omega), hJ2, hM2⟩
          case measure => simp [intOf]; omega
        | some s =>
          have HR' := Lib.hid (HR.out.trans (show _ = _ from if_neg hz))
          clear HR hz
          generalize cls ss c = z at *
          simp only [stv]
          gi_wp2
          go_roundw
          case rel => exact ⟨k + 1, some s, pre, rest, by omega, by go_num, rfl, ⟨HP.out, HT.out.trans HR'.out⟩, (fun x h => by have := HS.out x h; omega), hJ2, hM2⟩
          case measure => simp [intOf]; omega
    · have HE := Lib.hid (rns_end (cls ss) text k (by omega) s)
      have cb := hM1.bt
      cases s with
      | none =>
        simp only [stv]
        gi_wp2
        go_end0
        have hr0 : rest = [] := by have := HT.out.trans HE.out; simpa using this
        exact ⟨⟨_, rfl⟩, .inl ⟨pre, by rw [← HP.out, hr0]; simp, hJ1⟩⟩
      | some s =>
        obtain rfl : k = text.length := by omega
        simp only [stv]
        obtain ⟨x, hx, hfx⟩ : ∃ x, rest = [x] ∧ f x = (s, text.length) := by
          have := HT.out.trans HE.out
          cases rest with
          | nil => cases this
          | cons x r => simp only [List.map_cons, List.cons.injEq, List.map_eq_nil_iff] at this; exact ⟨x, by rw [this.2], this.1⟩
        have HPX := Lib.hid (show pre ++ [x] = all by rw [← HP.out, hx])
        have hlen : pre.length < all.length := by rw [← HPX.out]; simp
        have hy0 := HY.out pre x wr hJ1 hlen
        rw [hfx] at hy0
        clear hx hfx
        unfold encR at hy0
        obtain ⟨fn, tmps, assign, body, hy, hR⟩ := hy0
        dsimp only at hy
        have HRR := Lib.hid hR
        clear hR hlen
        gi_wp2
        refine HRR.out.mono ?_
        rintro e W3 (⟨rfl, hJ3, hk3⟩ | ⟨rfl, hJx3⟩)
        · gi_wp2
          go_end0
          exact ⟨⟨_, rfl⟩, .inl ⟨pre ++ [x], HPX.out, hJ3⟩⟩
        · gi_wp2
          go_end0
          exact ⟨⟨_, rfl⟩, .inr ⟨pre ++ [x], ⟨[], by rw [List.append_nil]; exact HPX.out⟩, hJx3⟩⟩

theorem runs_stops {α : Type} (f : α → Nat × Nat) (n : Nat) (hn1 : 1 ≤ n) (n₀ bo Bt Bs : Nat) (A : Option Addr) (nt kt : Nat) (text : List Int) (A' : Option Addr) (ns ks : Nat) (ss : List Spn) (all : List α) (w : World)
    (hall : all.map f = rns (cls ss) text 0 none) (hnt : text.length = nt) (hns : ss.length = ns) (hb1 : nt ≤ 1099511627776) (hb2 : ns ≤ 1099511627776) (hasc : Asc ss)
    (h1 : Bt < n₀ ∧ Bt ≠ bo) (h2 : Bs < n₀ ∧ Bs ≠ bo) (h3 : text ≠ [] → Within n₀ bo A) (h4 : ss ≠ [] → Within n₀ bo A') (hM : Mem Bt Bs A nt kt text A' ns ks ss w) :
    SeqStopsK Fence.wide n Tryd.prog 44 #[.pointer (some ⟨Bt, 0, none⟩), .pointer (some ⟨Bs, 0, none⟩)] (fun x => encR (f x)) (KeepX n₀ bo) (fun ys => ys = all) (fun pre => pre <+: all) all.length w :=
  fun l J Jx W hW hJ _ hY h0 => runs1_in f n hn1 l n₀ bo Bt Bs A nt kt text A' ns ks ss all hall hnt hns hb1 hb2 hasc h1 h2 h3 h4 J Jx _ hJ hY W (hM.below hW) h0

/-- ordering.runs boxes its two arguments and hands back the iterator -/
theorem runs_any (A : Option Addr) (nt kt : Nat) (A' : Option Addr) (ns ks : Nat) (w : World) :
    Calls Tryd.prog 34 #[.slice A' ns ks, .slice A nt kt] w fun e w' =>
      e = .returned (.func (.func 44) #[] #[.pointer (some ⟨w.heap.size + 1, 0, none⟩), .pointer (some ⟨w.heap.size, 0, none⟩)]) ∧
      (w.alloc (.cells #[.slice A' ns ks] 22)).alloc (.cells #[.slice A nt kt] 27) = w' := by
  go_enter Tryd.func34, Tryd.ntmps34
  go_wp2
  go_ret
  exact ⟨rfl, rfl⟩

end Go.Proofs.YthagfcdleapooaaDoor
