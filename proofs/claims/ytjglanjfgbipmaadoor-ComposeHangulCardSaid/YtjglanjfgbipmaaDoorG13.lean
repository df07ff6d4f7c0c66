/- Texts that are merged into one file: Meas, ORuns, OCollect. -/
import Derived.Test.YtjglanjfgbipmaaDoorG08
import Derived.Test.YtjglanjfgbipmaaDoorG09
import Derived.Test.YtjglanjfgbipmaaDoorG12
import Derived.RangeFuncNested
import Derived.RangeFuncBound
import Derived.RangeFuncCalls
import Derived.RangeFuncLeaves
import Derived.Shelf.Abstract
import Derived.Shelf.RegionOpen
import Derived.WalkKit
import Derived.OwnWalkIn
import Derived.TacticsInMore
import Derived.LoopNIn
import Derived.LoopIn
import Derived.RangeFuncBox
import Derived.Maps.AppendAt
import Derived.Maps.OwnIn
/- The contract of decompose.measure. -/
namespace Go.Proofs.YtjglanjfgbipmaaDoor
open Go.RowKit Go.Maps Go.WideMaps

theorem load_bool (W : World) (a : Addr) (x : Bool) (h : W.cell? a = some (.bool x)) : (loadVar 4 a).run Tryd.prog W = .ok (.bool x) W := by
  have hu := Tryd.underlying4
  simp only [loadVar, isAgg, Sem.run_bind, run_underlying hu, Result.andThen_ok, Sem.run_pure]
  simp [run_load, h]
theorem results_cell2 {fn : Func} {p q : Tmp} {t u : TypeId} (h : fn.results = #[.cell p t, .cell q u]) (tmps : Array Value) (P : Program) (w : World) {a b : Addr} {x y : Value} (ha : tmps.getD p undef = .pointer (some a)) (hb : tmps.getD q undef = .pointer (some b))
    (hx : (loadVar t a).run P w = .ok x w) (hy : (loadVar u b).run P w = .ok y w) : (results fn tmps).run P w = .ok (.tuple #[x, y]) w := by
  rw [Array.getD_eq_getD_getElem?] at ha hb
  simp only [results, h]
  simp [Sem.run_bind, Result.andThen, ha, hb, asAddr, hx, hy]
theorem DInv_none (on : Int → Option (List Int)) (cap mx : Int) : DInv on cap mx (fun _ => none) false false := ⟨fun _ _ h => (by cases h), fun _ _ _ h => (by cases h), fun h => (by cases h), fun h => (by cases h), fun _ _ h => (by cases h), fun _ _ h => (by cases h)⟩
def RetMeas (ms : List Mp) (w : World) (e : Ending) (w' : World) : Prop := ∃ cyc lng, e = .returned (.tuple #[.bool cyc, .bool lng]) ∧ MeasOk ms cyc lng ∧ Below w.heap.size w w'
theorem unmarked_len (fs : List Int) (mk : Int → Option Int) : unmarked fs mk ≤ fs.length := List.length_filter_le _ _
/-- the memory of the search at its beginning -/
theorem MS_new (A0 : Option Addr) (n0 k0 : Nat) (A1 : Option Addr) (n1 k1 : Nat) (A2 : Option Addr) (n2 k2 : Nat) (w : World) : MS A0 n0 k0 A1 n1 k1 A2 n2 k2 w.heap.size (((((((w).alloc (.cells #[.slice A0 n0 k0, .slice A1 n1 k1, .slice A2 n2 k2] 35)).alloc (.cells #[.bool false] 4)).alloc (.cells #[.bool false] 4)).alloc (.map #[] 0)).alloc (.cells #[.map (some (w.heap.size + 1 + 1 + 1))] 100)).alloc (.cells #[.func (.func 55) #[] #[.pointer (some ⟨w.heap.size, 0, none⟩), .pointer (some ⟨w.heap.size + 1 + 1 + 1 + 1, 0, none⟩), .pointer (some ⟨w.heap.size + 1, 0, none⟩), .pointer (some ⟨w.heap.size + 1 + 1 + 1 + 1 + 1, 0, none⟩), .pointer (some ⟨w.heap.size + 1 + 1, 0, none⟩)]] 46)) 0 (fun _ => none) false false ∧ Below w.heap.size w (((((((w).alloc (.cells #[.slice A0 n0 k0, .slice A1 n1 k1, .slice A2 n2 k2] 35)).alloc (.cells #[.bool false] 4)).alloc (.cells #[.bool false] 4)).alloc (.map #[] 0)).alloc (.cells #[.map (some (w.heap.size + 1 + 1 + 1))] 100)).alloc (.cells #[.func (.func 55) #[] #[.pointer (some ⟨w.heap.size, 0, none⟩), .pointer (some ⟨w.heap.size + 1 + 1 + 1 + 1, 0, none⟩), .pointer (some ⟨w.heap.size + 1, 0, none⟩), .pointer (some ⟨w.heap.size + 1 + 1 + 1 + 1 + 1, 0, none⟩), .pointer (some ⟨w.heap.size + 1 + 1, 0, none⟩)]] 46)) := by
  have h1 : Box ((w).alloc (.cells #[.slice A0 n0 k0, .slice A1 n1 k1, .slice A2 n2 k2] 35)) w.heap.size 35 [.slice A0 n0 k0, .slice A1 n1 k1, .slice A2 n2 k2] := Box.new _ _ _ rfl
  have h2 : Box (((w).alloc (.cells #[.slice A0 n0 k0, .slice A1 n1 k1, .slice A2 n2 k2] 35)).alloc (.cells #[.bool false] 4)) (w.heap.size + 1) 4 [.bool false] := Box.new _ _ _ (by simp)
  have h3 : Box ((((w).alloc (.cells #[.slice A0 n0 k0, .slice A1 n1 k1, .slice A2 n2 k2] 35)).alloc (.cells #[.bool false] 4)).alloc (.cells #[.bool false] 4)) (w.heap.size + 2) 4 [.bool false] := Box.new _ _ _ (by simp)
  have h4 : MapI (((((w).alloc (.cells #[.slice A0 n0 k0, .slice A1 n1 k1, .slice A2 n2 k2] 35)).alloc (.cells #[.bool false] 4)).alloc (.cells #[.bool false] 4)).alloc (.map #[] 0)) (w.heap.size + 3) 0 (fun _ => none) := by
    have := MapIs.made Tryd.prog 3 ikey iok ((((w).alloc (.cells #[.slice A0 n0 k0, .slice A1 n1 k1, .slice A2 n2 k2] 35)).alloc (.cells #[.bool false] 4)).alloc (.cells #[.bool false] 4))
    simpa using this
  have h5 : Box ((((((w).alloc (.cells #[.slice A0 n0 k0, .slice A1 n1 k1, .slice A2 n2 k2] 35)).alloc (.cells #[.bool false] 4)).alloc (.cells #[.bool false] 4)).alloc (.map #[] 0)).alloc (.cells #[.map (some (w.heap.size + 1 + 1 + 1))] 100)) (w.heap.size + 4) 100 [.map (some (w.heap.size + 1 + 1 + 1))] := Box.new _ _ _ (by simp)
  have h6 : Box (((((((w).alloc (.cells #[.slice A0 n0 k0, .slice A1 n1 k1, .slice A2 n2 k2] 35)).alloc (.cells #[.bool false] 4)).alloc (.cells #[.bool false] 4)).alloc (.map #[] 0)).alloc (.cells #[.map (some (w.heap.size + 1 + 1 + 1))] 100)).alloc (.cells #[.func (.func 55) #[] #[.pointer (some ⟨w.heap.size, 0, none⟩), .pointer (some ⟨w.heap.size + 1 + 1 + 1 + 1, 0, none⟩), .pointer (some ⟨w.heap.size + 1, 0, none⟩), .pointer (some ⟨w.heap.size + 1 + 1 + 1 + 1 + 1, 0, none⟩), .pointer (some ⟨w.heap.size + 1 + 1, 0, none⟩)]] 46)) (w.heap.size + 5) 46 [.func (.func 55) #[] #[.pointer (some ⟨w.heap.size, 0, none⟩), .pointer (some ⟨w.heap.size + 1 + 1 + 1 + 1, 0, none⟩), .pointer (some ⟨w.heap.size + 1, 0, none⟩), .pointer (some ⟨w.heap.size + 1 + 1 + 1 + 1 + 1, 0, none⟩), .pointer (some ⟨w.heap.size + 1 + 1, 0, none⟩)]] := Box.new _ _ _ (by simp)
  have al : ∀ (W : World) (o : Obj), Below W.heap.size W (W.alloc o) := fun W o => (Below.refl _ _).alloc (Nat.le_refl _) _
  have b2 := al ((w).alloc (.cells #[.slice A0 n0 k0, .slice A1 n1 k1, .slice A2 n2 k2] 35)) (.cells #[.bool false] 4)
  have b3 := al (((w).alloc (.cells #[.slice A0 n0 k0, .slice A1 n1 k1, .slice A2 n2 k2] 35)).alloc (.cells #[.bool false] 4)) (.cells #[.bool false] 4)
  have b4 := al ((((w).alloc (.cells #[.slice A0 n0 k0, .slice A1 n1 k1, .slice A2 n2 k2] 35)).alloc (.cells #[.bool false] 4)).alloc (.cells #[.bool false] 4)) (.map #[] 0)
  have b5 := al (((((w).alloc (.cells #[.slice A0 n0 k0, .slice A1 n1 k1, .slice A2 n2 k2] 35)).alloc (.cells #[.bool false] 4)).alloc (.cells #[.bool false] 4)).alloc (.map #[] 0)) (.cells #[.map (some (w.heap.size + 1 + 1 + 1))] 100)
  have b6 := al ((((((w).alloc (.cells #[.slice A0 n0 k0, .slice A1 n1 k1, .slice A2 n2 k2] 35)).alloc (.cells #[.bool false] 4)).alloc (.cells #[.bool false] 4)).alloc (.map #[] 0)).alloc (.cells #[.map (some (w.heap.size + 1 + 1 + 1))] 100)) (.cells #[.func (.func 55) #[] #[.pointer (some ⟨w.heap.size, 0, none⟩), .pointer (some ⟨w.heap.size + 1 + 1 + 1 + 1, 0, none⟩), .pointer (some ⟨w.heap.size + 1, 0, none⟩), .pointer (some ⟨w.heap.size + 1 + 1 + 1 + 1 + 1, 0, none⟩), .pointer (some ⟨w.heap.size + 1 + 1, 0, none⟩)]] 46)
  refine ⟨⟨?_, ?_, ?_, ?_, ?_, ?_⟩, ?_⟩
  · exact ((((h1.below b2 h1.lt).below b3 (h1.below b2 h1.lt).lt).below b4 (by simp <;> omega)).below b5 (by simp <;> omega)).below b6 (by simp <;> omega)
  · exact (((h2.below b3 h2.lt).below b4 (by simp <;> omega)).below b5 (by simp <;> omega)).below b6 (by simp <;> omega)
  · exact ((h3.below b4 h3.lt).below b5 (by simp <;> omega)).below b6 (by simp <;> omega)
  · exact (h4.below b5).below b6
  · exact h5.below b6 h5.lt
  · exact h6
  · exact ((((((Below.refl _ _).alloc (Nat.le_refl _) _).alloc (by simp) _).alloc (by simp <;> omega) _).alloc (by simp <;> omega) _).alloc (by simp <;> omega) _).alloc (by simp <;> omega) _
set_option maxRecDepth 100000 in
set_option maxHeartbeats 3200000 in
theorem measure_any (A0 : Option Addr) (n0 k0 : Nat) (A1 : Option Addr) (n1 k1 : Nat) (A2 : Option Addr) (n2 k2 : Nat) (ms : List Mp) (w : World) (hA : Mps w A1 ms) (hn : ms.length = n1) (hst : StF ms) (hco : CodesOk ms) (hh : NoHg ms) (hbig : n1 ≤ 1048576) :
    Calls Tryd.prog 34 #[.agg #[.slice A0 n0 k0, .slice A1 n1 k1, .slice A2 n2 k2]] w (RetMeas ms w) := by
  subst hn
  have SZ := Lib.hid (size_ok A0 n0 k0 A1 k1 A2 n2 k2 w.heap.size ms w rfl hA hst hco hbig)
  have OK := Lib.hid (fun mk cyc lng => MeasOk.of (mk := mk) (cyc := cyc) (lng := lng) hst hh)
  have ON := Lib.hid (fun i (hi : i < ms.length) => (onM_frm hst hh true hi).trans (if_pos (.inl rfl)))
  have HH := Lib.hid (fun i (hi : i < ms.length) => show hk ms[i].frm = 0 from by unfold hk; rw [hh i hi]; rfl)
  have CO := Lib.hid (fun i (hi : i < ms.length) => (hco i hi).1)
  clear hst hco hh
  have hmm := @run_makeMap Tryd.prog
  have hsf := fun (W : World) (a : Addr) (m : Mode) (fn : Fn) (x y : Array Value) => run_store Tryd.prog W a (.func fn x y) m rfl
  go_enter Tryd.func34, Tryd.ntmps34
  go_wp2_with fail
  obtain ⟨W0, hW0⟩ : ∃ W0, (((((((w).alloc (.cells #[.slice A0 n0 k0, .slice A1 ms.length k1, .slice A2 n2 k2] 35)).alloc (.cells #[.bool false] 4)).alloc (.cells #[.bool false] 4)).alloc (.map #[] 0)).alloc (.cells #[.map (some (w.heap.size + 1 + 1 + 1))] 100)).alloc (.cells #[.func (.func 55) #[] #[.pointer (some ⟨w.heap.size, 0, none⟩), .pointer (some ⟨w.heap.size + 1 + 1 + 1 + 1, 0, none⟩), .pointer (some ⟨w.heap.size + 1, 0, none⟩), .pointer (some ⟨w.heap.size + 1 + 1 + 1 + 1 + 1, 0, none⟩), .pointer (some ⟨w.heap.size + 1 + 1, 0, none⟩)]] 46)) = W0 := ⟨_, rfl⟩
  obtain ⟨hM0, hB0⟩ := MS_new A0 n0 k0 A1 ms.length k1 A2 n2 k2 w
  rw [hW0] at hM0 hB0 ⊢
  clear hW0 hmm hsf
  have HM0 := Lib.hid hM0; clear hM0
  go_loopw [7, 13] (fun _ u wr => ∃ (i n : Nat) (mk : Int → Option Int) (cyc lng : Bool), i ≤ ms.length ∧ u = .int .i64 i ∧ MS A0 n0 k0 A1 ms.length k1 A2 n2 k2 w.heap.size wr n mk cyc lng ∧ DInv (onM ms true) capE mxE mk cyc lng ∧ (∀ x, mk x ≠ some (-1)) ∧ n + 200 * unmarked (fsM ms) mk ≤ 200 * ms.length ∧
      (∀ t, (ht : t < ms.length) → t < i → ms[t].to ≠ [] → ∃ k, mk ms[t].frm = some k) ∧ Below w.heap.size w wr) (fun _ u _ => ms.length - (intOf u).toNat)
  case atStart =>
    refine ⟨0, 0, _, false, false, Nat.zero_le _, rfl, HM0.out, DInv_none _ _ _, fun x h => (by cases h), ?_, fun t _ h => absurd h (Nat.not_lt_zero _), hB0⟩
    have := unmarked_len (fsM ms) (fun _ => none)
    unfold fsM at *
    rw [List.length_map] at this
    omega
  case round =>
    obtain ⟨i, n, mk, cyc, lng, hi, rfl, hMS, hDI, hfin, hpot, hmkd, hb⟩ := hrel
    have HMS := Lib.hid hMS; have HDI := Lib.hid hDI; have HFI := Lib.hid hfin; have HPO := Lib.hid hpot; have HMD := Lib.hid hmkd
    clear hMS hDI hfin hpot hmkd
    by_cases hlt : i < ms.length
    · obtain ⟨b, o, rfl, _, hcell⟩ := (hA.below hb).at hlt
      obtain ⟨E, d, c1, c2, c3, _, _⟩ := hcell i hlt
      clear hcell
      have HO := Lib.hid (ON.out i hlt)
      have h0 := HH.out i hlt
      have hcd := CO.out i hlt
      have HST := Lib.hid (fun (mk' : Int → Option Int) (he : DExt mk mk') (hm : ms[i].to ≠ [] → ∃ k, mk' ms[i].frm = some k) => show ∀ t, (ht : t < ms.length) → t < i + 1 → ms[t].to ≠ [] → ∃ k, mk' ms[t].frm = some k from fun t ht h1 h2 => by
        by_cases e : t = i
        · subst e; exact hm h2
        · obtain ⟨k, hk⟩ := HMD.out t ht (by omega) h2; exact ⟨k, he.old _ _ hk⟩)
      generalize ms[i].frm = f at *
      generalize ms[i].to = to at *
      generalize ms[i].tag = tg at *
      have hBa : Below wr.heap.size wr (wr.alloc (.cells #[.int .i64 f, .slice E to.length d, .string tg] 40)) := (Below.refl _ _).alloc (Nat.le_refl _) _
      have hbW := hb.trans (hBa.mono hb.size)
      have hMW := HMS.out.below hBa
      have p5 : (wr.alloc (.cells #[.int .i64 f, .slice E to.length d, .string tg] 40)).cell? ⟨w.heap.size + 1 + 1 + 1 + 1 + 1, 0, none⟩ = some (.func (.func 55) #[] #[.pointer (some ⟨w.heap.size, 0, none⟩), .pointer (some ⟨w.heap.size + 1 + 1 + 1 + 1, 0, none⟩), .pointer (some ⟨w.heap.size + 1, 0, none⟩), .pointer (some ⟨w.heap.size + 1 + 1 + 1 + 1 + 1, 0, none⟩), .pointer (some ⟨w.heap.size + 1 + 1, 0, none⟩)]) := hMW.bS.cell rfl
      have q5 : wr.cell? ⟨w.heap.size + 1 + 1 + 1 + 1 + 1, 0, none⟩ = some (.func (.func 55) #[] #[.pointer (some ⟨w.heap.size, 0, none⟩), .pointer (some ⟨w.heap.size + 1 + 1 + 1 + 1, 0, none⟩), .pointer (some ⟨w.heap.size + 1, 0, none⟩), .pointer (some ⟨w.heap.size + 1 + 1 + 1 + 1 + 1, 0, none⟩), .pointer (some ⟨w.heap.size + 1 + 1, 0, none⟩)]) := HMS.out.bS.cell rfl
      have CL := Lib.hid (show Calls Tryd.prog 55 #[.int .i64 f, .pointer (some ⟨w.heap.size, 0, none⟩), .pointer (some ⟨w.heap.size + 1 + 1 + 1 + 1, 0, none⟩), .pointer (some ⟨w.heap.size + 1, 0, none⟩), .pointer (some ⟨w.heap.size + 1 + 1 + 1 + 1 + 1, 0, none⟩), .pointer (some ⟨w.heap.size + 1 + 1, 0, none⟩)] (wr.alloc (.cells #[.int .i64 f, .slice E to.length d, .string tg] 40))
          (SzRet A0 n0 k0 _ ms.length k1 A2 n2 k2 w.heap.size ms f (wr.alloc (.cells #[.int .i64 f, .slice E to.length d, .string tg] 40)) n mk cyc) from
        SZ.out (2 * unmarked (fsM ms) mk + 1) f _ n mk cyc lng (by omega) hcd HDI.out (fun x h => absurd h (HFI.out x)) hMW hbW (by have := HPO.out; omega))
      clear hMW hBa
      go_wp2_with fail
      with_reducible refine CL.out.mono ?_
      rintro e W ⟨v, n', mk', cyc', lng', rfl, hp⟩
      have hbN := hbW.trans hp.bel
      have RL := Lib.hid (show MS A0 n0 k0 _ ms.length k1 A2 n2 k2 w.heap.size W n' mk' cyc' lng' ∧ DInv (onM ms true) capE mxE mk' cyc' lng' ∧ (∀ x, mk' x ≠ some (-1)) ∧ n' + 200 * unmarked (fsM ms) mk' ≤ 200 * ms.length ∧ (∀ t, (ht : t < ms.length) → t < i + 1 → ms[t].to ≠ [] → ∃ k, mk' ms[t].frm = some k) from
        ⟨hp.st, hp.inv, fun x => by
          cases hx : mk x with
          | none => exact hp.ext.new x hx
          | some k => intro h; have := hp.ext.old x k hx; rw [h] at this; injection this with this; subst this; exact HFI.out x hx,
         by have := hp.pot; have := HPO.out; omega, HST.out mk' hp.ext (fun hne => hp.mkd to HO.out hne)⟩)
      clear hp CL p5 q5
      go_wp2_with fail
      go_roundw
      case rel => exact ⟨i + 1, n', mk', cyc', lng', by omega, by go_num, RL.out.1, RL.out.2.1, RL.out.2.2.1, RL.out.2.2.2.1, RL.out.2.2.2.2, hbN⟩
      case measure => simp [intOf]; omega
    · obtain rfl : i = ms.length := by omega
      have MO := Lib.hid (OK.out mk cyc lng HDI.out HFI.out (fun t ht h => HMD.out t ht ht h))
      have e1 : wr.cell? ⟨w.heap.size + 1, 0, none⟩ = some (.bool cyc) := HMS.out.bC.cell rfl
      have e2 : wr.cell? ⟨w.heap.size + 1 + 1, 0, none⟩ = some (.bool lng) := HMS.out.bL.cell rfl
      have e3 : wr.frozen? ⟨w.heap.size + 1, 0, none⟩ = false := HMS.out.bC.free 0
      have e4 : wr.frozen? ⟨w.heap.size + 1 + 1, 0, none⟩ = false := HMS.out.bL.free 0
      go_wp2_with fail
      go_region
      all_goals
        go_wp2_with fail
        (try simp only [Exit.inBlock, Exit.then])
        refine bodyPost_ret (results_cell2 rfl _ _ _ rfl rfl (load_bool _ _ cyc ?_) (load_bool _ _ lng ?_)) rfl ?_
        · go_simp
        · go_simp
        · exact ⟨cyc, lng, rfl, MO.out, ((hb.setCell (by simp) _).setCell (by simp; omega) _).drew⟩
end Go.Proofs.YtjglanjfgbipmaaDoor
/- The contract of the iterator that ordering.runs hands back: it yields the runs of a text in order. -/
namespace Go.Proofs.YtjglanjfgbipmaaDoor
open Go.RowKit Go.Shelf
attribute [local go_sem] Oper.semAt_some

/-- below n₀ nothing but block bo has changed -/
def KeepX (n₀ bo : Nat) (W W' : World) : Prop := W.heap.size ≤ W'.heap.size ∧ ∀ k, k < n₀ → k ≠ bo → W'.heap[k]? = W.heap[k]?

theorem KeepX.refl (n₀ bo : Nat) (W : World) : KeepX n₀ bo W W := ⟨Nat.le_refl _, fun _ _ _ => rfl⟩
theorem KeepX.trans {n₀ bo : Nat} {A B C : World} (h : KeepX n₀ bo A B) (g : KeepX n₀ bo B C) : KeepX n₀ bo A C := ⟨Nat.le_trans h.1 g.1, fun k hk hne => (g.2 k hk hne).trans (h.2 k hk hne)⟩
theorem KeepX.cell {n₀ bo : Nat} {W W' : World} (h : KeepX n₀ bo W W') {p : Addr} (h1 : p.block < n₀) (h2 : p.block ≠ bo) : W'.cell? p = W.cell? p := World.cell?_of_block (w := W) (h.2 p.block h1 h2)

/-- the slice at A, if it holds something, lies below n₀ and not in block bo -/
def Within (n₀ bo : Nat) (A : Option Addr) : Prop := ∀ b o, A = some ⟨b, o, none⟩ → b < n₀ ∧ b ≠ bo

theorem Sl.keepX {n₀ bo : Nat} {W W' : World} {A : Option Addr} {cs : List Value} (h : Sl W A cs) (hk : KeepX n₀ bo W W') (hw : cs ≠ [] → Within n₀ bo A) : Sl W' A cs := by
  intro hne
  obtain ⟨b, o, rfl, hc⟩ := h hne
  obtain ⟨h1, h2⟩ := hw hne b o rfl
  exact ⟨b, o, rfl, fun j u hu => (hk.cell (p := ⟨b, o + j, none⟩) h1 h2).trans (hc j u hu)⟩

/-- what the iterator reads: the boxes of its two captured variables, the text and the spans -/
structure Mem (Bt Bs : Nat) (A : Option Addr) (nt kt : Nat) (text : List Int) (A' : Option Addr) (ns ks : Nat) (ss : List Spn) (W : World) : Prop where
  bt : W.cell? ⟨Bt, 0, none⟩ = some (.slice A nt kt)
  bs : W.cell? ⟨Bs, 0, none⟩ = some (.slice A' ns ks)
  tx : Ints W A text
  sp : Spans W A' ss

theorem Mem.below {Bt Bs : Nat} {A : Option Addr} {nt kt : Nat} {text : List Int} {A' : Option Addr} {ns ks : Nat} {ss : List Spn} {W W' : World} (h : Mem Bt Bs A nt kt text A' ns ks ss W) (hb : Below W.heap.size W W') : Mem Bt Bs A nt kt text A' ns ks ss W' :=
  ⟨(hb.cell (World.block_lt_of_cell? W _ h.bt)).trans h.bt, (hb.cell (World.block_lt_of_cell? W _ h.bs)).trans h.bs, h.tx.below hb, h.sp.below hb⟩

theorem Mem.keepX {n₀ bo Bt Bs : Nat} {A : Option Addr} {nt kt : Nat} {text : List Int} {A' : Option Addr} {ns ks : Nat} {ss : List Spn} {W W' : World} (h : Mem Bt Bs A nt kt text A' ns ks ss W) (hk : KeepX n₀ bo W W')
    (h1 : Bt < n₀ ∧ Bt ≠ bo) (h2 : Bs < n₀ ∧ Bs ≠ bo) (h3 : text ≠ [] → Within n₀ bo A) (h4 : ss ≠ [] → Within n₀ bo A') : Mem Bt Bs A nt kt text A' ns ks ss W' :=
  ⟨(hk.cell (p := ⟨Bt, 0, none⟩) h1.1 h1.2).trans h.bt, (hk.cell (p := ⟨Bs, 0, none⟩) h2.1 h2.2).trans h.bs, Sl.keepX h.tx hk (fun hne => h3 (by rintro rfl; exact hne rfl)), Sl.keepX h.sp hk (fun hne => h4 (by rintro rfl; exact hne rfl))⟩

/-- a range asq it is yielded -/
def encR (x : Nat × Nat) : Array Value := #[.agg #[.int .i64 (x.1 : Int), .int .i64 (x.2 : Int)]]

theorem J_below {α : Type} {J : List α → World → Prop} {B : Nat} (h : AbidesFrom B J) {pre : List α} {W W' : World} (hJ : J pre W) (hb : Below W.heap.size W W') : J pre W' :=
  h pre W W' none hJ ⟨hb.os, hb.tape, hb.output, hb.size, fun k hk _ => hb.block k hk⟩ (fun r e => by cases e)

/-- what the iterator leaves: all runs have come, or a part of them -/
def RunsPost {α : Type} (all : List α) (J Jx : List α → World → Prop) (e : Ending) (W' : World) : Prop := (∃ v, e = .returned v) ∧ ((∃ ys, ys = all ∧ J ys W') ∨ (∃ pre, pre <+: all ∧ Jx pre W'))

set_option maxRecDepth 100000 in
set_option maxHeartbeats 4000000 in
theorem runs1_in {α : Type} (f : α → Nat × Nat) (n : Nat) (hn1 : 1 ≤ n) (l n₀ bo Bt Bs : Nat) (A : Option Addr) (nt kt : Nat) (text : List Int) (A' : Option Addr) (ns ks : Nat) (ss : List Spn) (all : List α)
    (hall : all.map f = rns (cls ss) text 0 none) (hnt : text.length = nt) (hns : ss.length = ns) (hb1 : nt ≤ 1099511627776) (hb2 : ns ≤ 1099511627776) (hasc : Asc ss)
    (h1 : Bt < n₀ ∧ Bt ≠ bo) (h2 : Bs < n₀ ∧ Bs ≠ bo) (h3 : text ≠ [] → Within n₀ bo A) (h4 : ss ≠ [] → Within n₀ bo A')
    (J Jx : List α → World → Prop) (B : Nat) (hJ : AbidesFrom B J)
    (hY : ∀ pre x W, J pre W → pre.length < all.length → YieldAt Fence.wide (n - 1) Tryd.prog l (encR (f x)) W fun e W' =>
      (e = .returned (.bool true) ∧ J (pre ++ [x]) W' ∧ KeepX n₀ bo W W') ∨ (e = .returned (.bool false) ∧ Jx (pre ++ [x]) W'))
    (W : World) (hM : Mem Bt Bs A nt kt text A' ns ks ss W) (h0 : J [] W) :
    CallsIn Fence.wide n Tryd.prog 68 #[.func (.yield l) #[] #[], .pointer (some ⟨Bt, 0, none⟩), .pointer (some ⟨Bs, 0, none⟩)] W (RunsPost all J Jx) := by
  subst hnt hns
  have HALL := Lib.hid hall; have HA := Lib.hid hasc; have HY := Lib.hid hY; have HJ := Lib.hid hJ
  have H3 := Lib.hid h3; have H4 := Lib.hid h4
  clear hall hasc hY hJ h3 h4
  have cbt := hM.bt; have cbs := hM.bs
  refine callsIn_of_wp Tryd.func68 rfl trivial ?_ rfl
  simp only [Tryd.ntmps68, List.size_toArray, List.length_cons, List.length_nil, Nat.reduceAdd, Nat.reduceSub, Array.replicate_succ, Array.replicate_zero, List.push_toArray, List.append_toArray, List.nil_append, List.cons_append]
  gi_wp2
  gi_loopw [4, 10] (fun u i wr => ∃ (k : Nat) (s : Option Nat) (pre rest : List α), k ≤ text.length ∧ i = .int .i64 k ∧ u = .int .i64 (stv s) ∧ (pre ++ rest = all ∧ rest.map f = rns (cls ss) (text.drop k) k s) ∧ (∀ x, s = some x → x ≤ k) ∧ J pre wr ∧ Mem Bt Bs A text.length kt text A' ss.length ks ss wr)
    (fun _ i _ => text.length - (intOf i).toNat)
  case atStart => exact ⟨0, none, [], all, Nat.zero_le _, rfl, rfl, ⟨rfl, HALL.out⟩, (fun _ h => by cases h), h0, hM⟩
  case round =>
    obtain ⟨k, s, pre, rest, hk, rfl, rfl, ⟨hpre, hrest⟩, hs, hJ1, hM1⟩ := hrel
    have HP := Lib.hid hpre; have HT := Lib.hid hrest; clear hrest; have HS := Lib.hid hs; clear hpre hs
    by_cases hlt : k < text.length
    · obtain ⟨b, o, rfl, hcell⟩ := hM1.tx.at hlt
      have c1 := hcell k hlt
      have c2 := hM1.bs
      clear hcell
      have HR := Lib.hid (rns_step (cls ss) text k hlt s)
      generalize text[k] = c at *
      gi_wp2_with fail
      refine ⟨trivial, (callsIn_wide.2 (class_any A' ss.length ks ss c wr hM1.sp rfl hb2 HA.out)).mono ?_⟩
      rintro e w1 ⟨rfl, hbw⟩
      have hM2 := hM1.below hbw
      have hJ2 := J_below HJ.out hJ1 hbw
      clear hM1 hJ1 hbw c1 c2
      by_cases hz : cls ss c = 0
      · have hzb : (cls ss c == 0) = true := by simpa using hz
        cases s with
        | none =>
          have HR' := Lib.hid (HR.out.trans (show _ = _ from if_pos hz))
          clear HR hz
          generalize cls ss c = z at *
          simp only [stv]
          gi_wp2
          go_roundw
          case rel => exact ⟨k + 1, none, pre, rest, by omega, by go_num, rfl, ⟨HP.out, HT.out.trans HR'.out⟩, (fun _ h => by cases h), hJ2, hM2⟩
          case measure => simp [intOf]; omega
        | some s =>
          have HR' := Lib.hid (HR.out.trans (show _ = _ from if_pos hz))
          clear HR hz
          generalize cls ss c = z at *
          simp only [stv]
          obtain ⟨x, rest', hx, hfx, hrest'⟩ : ∃ x rest', rest = x :: rest' ∧ f x = (s, k) ∧ rest'.map f = rns (cls ss) (text.drop (k + 1)) (k + 1) none := by
            have := HT.out.trans HR'.out
            cases rest with
            | nil => cases this
            | cons x r => simp only [List.map_cons, List.cons.injEq] at this; exact ⟨x, r, rfl, this.1, this.2⟩
          have HPX := Lib.hid (show (pre ++ [x]) ++ rest' = all by rw [← HP.out, hx]; simp)
          have HTX := Lib.hid hrest'
          have hlen : pre.length < all.length := by rw [← HP.out, hx]; simp
          have hy0 := HY.out pre x w1 hJ2 hlen
          rw [hfx] at hy0
          clear hx hfx hrest'
          unfold encR at hy0
          obtain ⟨fn, tmps, assign, body, hy, hR⟩ := hy0
          dsimp only at hy
          have HRR := Lib.hid hR
          clear hR hlen
          gi_wp2
          refine HRR.out.mono ?_
          rintro e W3 (⟨rfl, hJ3, hk3⟩ | ⟨rfl, hJx3⟩)
          · have hM3 := hM2.keepX hk3 h1 h2 H3.out H4.out
            clear hM2 hJ2 hy HRR
            gi_wp2
            go_roundw
            case rel => exact ⟨k + 1, none, pre ++ [x], rest', by omega, by go_num, rfl, ⟨HPX.out, HTX.out⟩, (fun _ h => by cases h), hJ3, hM3⟩
            case measure => simp [intOf]; omega
          · gi_wp2
            refine bodyPost_ret (results_none rfl _ _ _) rfl ?_
            exact ⟨⟨_, rfl⟩, .inr ⟨pre ++ [x], ⟨rest', HPX.out⟩, hJx3⟩⟩
      · have hzb : (cls ss c == 0) = false := by simpa using hz
        cases s with
        | none =>
          have HR' := Lib.hid (HR.out.trans (show _ = _ from if_neg hz))
          clear HR hz
          generalize cls ss c = z at *
          simp only [stv]
          gi_wp2
          go_roundw
          case rel => exact ⟨k + 1, some k, pre, rest, by omega, by go_num, rfl, ⟨HP.out, HT.out.trans HR'.out⟩, (fun x h => by cases h; omega), hJ2, hM2⟩
          case measure => simp [intOf]; omega
        | some s =>
          have HR' := Lib.hid (HR.out.trans (show _ = _ from if_neg hz))
          clear HR hz
          generalize cls ss c = z at *
          simp only [stv]
          gi_wp2
          go_roundw
          case rel => exact ⟨k + 1, some s, pre, rest, by omega, by go_num, rfl, ⟨HP.out, HT.out.trans HR'.out⟩, (fun x h => by have := HS.out x h; omega), hJ2, hM2⟩
          case measure => simp [intOf]; omega
    · have HE := Lib.hid (rns_end (cls ss) text k (by omega) s)
      have cb := hM1.bt
      cases s with
      | none =>
        simp only [stv]
        gi_wp2
        go_end0
        have hr0 : rest = [] := by have := HT.out.trans HE.out; simpa using this
        exact ⟨⟨_, rfl⟩, .inl ⟨pre, by rw [← HP.out, hr0]; simp, hJ1⟩⟩
      | some s =>
        obtain rfl : k = text.length := by omega
        simp only [stv]
        obtain ⟨x, hx, hfx⟩ : ∃ x, rest = [x] ∧ f x = (s, text.length) := by
          have := HT.out.trans HE.out
          cases rest with
          | nil => cases this
          | cons x r => simp only [List.map_cons, List.cons.injEq, List.map_eq_nil_iff] at this; exact ⟨x, by rw [this.2], this.1⟩
        have HPX := Lib.hid (show pre ++ [x] = all by rw [← HP.out, hx])
        have hlen : pre.length < all.length := by rw [← HPX.out]; simp
        have hy0 := HY.out pre x wr hJ1 hlen
        rw [hfx] at hy0
        clear hx hfx
        unfold encR at hy0
        obtain ⟨fn, tmps, assign, body, hy, hR⟩ := hy0
        dsimp only at hy
        have HRR := Lib.hid hR
        clear hR hlen
        gi_wp2
        refine HRR.out.mono ?_
        rintro e W3 (⟨rfl, hJ3, hk3⟩ | ⟨rfl, hJx3⟩)
        · gi_wp2
          go_end0
          exact ⟨⟨_, rfl⟩, .inl ⟨pre ++ [x], HPX.out, hJ3⟩⟩
        · gi_wp2
          go_end0
          exact ⟨⟨_, rfl⟩, .inr ⟨pre ++ [x], ⟨[], by rw [List.append_nil]; exact HPX.out⟩, hJx3⟩⟩

theorem runs_stops {α : Type} (f : α → Nat × Nat) (n : Nat) (hn1 : 1 ≤ n) (n₀ bo Bt Bs : Nat) (A : Option Addr) (nt kt : Nat) (text : List Int) (A' : Option Addr) (ns ks : Nat) (ss : List Spn) (all : List α) (w : World)
    (hall : all.map f = rns (cls ss) text 0 none) (hnt : text.length = nt) (hns : ss.length = ns) (hb1 : nt ≤ 1099511627776) (hb2 : ns ≤ 1099511627776) (hasc : Asc ss)
    (h1 : Bt < n₀ ∧ Bt ≠ bo) (h2 : Bs < n₀ ∧ Bs ≠ bo) (h3 : text ≠ [] → Within n₀ bo A) (h4 : ss ≠ [] → Within n₀ bo A') (hM : Mem Bt Bs A nt kt text A' ns ks ss w) :
    SeqStopsK Fence.wide n Tryd.prog 68 #[.pointer (some ⟨Bt, 0, none⟩), .pointer (some ⟨Bs, 0, none⟩)] (fun x => encR (f x)) (KeepX n₀ bo) (fun ys => ys = all) (fun pre => pre <+: all) all.length w :=
  fun l J Jx W hW hJ _ hY h0 => runs1_in f n hn1 l n₀ bo Bt Bs A nt kt text A' ns ks ss all hall hnt hns hb1 hb2 hasc h1 h2 h3 h4 J Jx _ hJ hY W (hM.below hW) h0

/-- ordering.runs boxes its two arguments and hands back the iterator -/
theorem runs_any (A : Option Addr) (nt kt : Nat) (A' : Option Addr) (ns ks : Nat) (w : World) :
    Calls Tryd.prog 54 #[.slice A' ns ks, .slice A nt kt] w fun e w' =>
      e = .returned (.func (.func 68) #[] #[.pointer (some ⟨w.heap.size + 1, 0, none⟩), .pointer (some ⟨w.heap.size, 0, none⟩)]) ∧
      (w.alloc (.cells #[.slice A' ns ks] 29)).alloc (.cells #[.slice A nt kt] 24) = w' := by
  go_enter Tryd.func54, Tryd.ntmps54
  go_wp2
  go_ret
  exact ⟨rfl, rfl⟩

end Go.Proofs.YtjglanjfgbipmaaDoor
/- Contracts of AppendSeq and Collect over the iterator of runs, and of ordering.Runs: the runs of a text are returned in a new slice. -/
namespace Go.Proofs.YtjglanjfgbipmaaDoor
open Go.RowKit Go.Shelf
attribute [local go_sem] Oper.semAt_some

/-- the cells of ranges -/
def flat2 (rs : List (Nat × Nat)) : List Value := rs.flatMap fun r => [.int .i64 (r.1 : Int), .int .i64 (r.2 : Int)]
theorem flat2_len (rs : List (Nat × Nat)) : (flat2 rs).length = rs.length * 2 := by
  induction rs with
  | nil => rfl
  | cons r rs ih => simp only [flat2, List.flatMap_cons, List.length_append, List.length_cons, List.length_nil] at *; omega
theorem flat2_snoc (rs : List (Nat × Nat)) (x : Nat × Nat) : flat2 (rs ++ [x]) = flat2 rs ++ [.int .i64 (x.1 : Int), .int .i64 (x.2 : Int)] := by simp [flat2]

/-- a slice of the ranges rs is returned; nothing that was there has changed -/
def RetRanges (rs : List (Nat × Nat)) (w : World) (e : Ending) (w' : World) : Prop := ∃ A c, e = .returned (.slice A rs.length c) ∧ rs.length ≤ c ∧ Sl w' A (flat2 rs) ∧ Below w.heap.size w w'

theorem info_range : (Tryd.prog.info? 75).map (fun i => (i.zero, i.size, i.bytes)) = some (some (.agg #[.int .i64 0, .int .i64 0]), 2, 16) := by kernel_rfl

theorem keepX_of_below {n₀ bo : Nat} {W W' : World} (h : Below n₀ W W') : KeepX n₀ bo W W' := ⟨h.size, fun k hk _ => h.block k hk⟩

theorem Mem.lt_bt {Bt Bs : Nat} {A : Option Addr} {nt kt : Nat} {text : List Int} {A' : Option Addr} {ns ks : Nat} {ss : List Spn} {W : World} (h : Mem Bt Bs A nt kt text A' ns ks ss W) : Bt < W.heap.size := World.block_lt_of_cell? W _ h.bt
theorem Mem.lt_bs {Bt Bs : Nat} {A : Option Addr} {nt kt : Nat} {text : List Int} {A' : Option Addr} {ns ks : Nat} {ss : List Spn} {W : World} (h : Mem Bt Bs A nt kt text A' ns ks ss W) : Bs < W.heap.size := World.block_lt_of_cell? W _ h.bs
theorem Sl.lt {W : World} {A : Option Addr} {cs : List Value} (h : Sl W A cs) (hne : cs ≠ []) (bo : Nat) (hbo : W.heap.size ≤ bo) : Within W.heap.size bo A := by
  intro b o hA
  obtain ⟨b', o', hA', hc⟩ := h hne
  rw [hA] at hA'
  injection hA' with hA'
  injection hA' with h1 h2
  subst h1; subst h2
  obtain ⟨x, r, rfl⟩ : ∃ x r, cs = x :: r := by cases cs with | nil => exact absurd rfl hne | cons x r => exact ⟨x, r, rfl⟩
  have := World.block_lt_of_cell? W _ (hc 0 x rfl)
  simp at this
  exact ⟨this, by omega⟩

set_option maxRecDepth 100000 in
set_option maxHeartbeats 4000000 in
theorem AppendSeq_any (Bt Bs : Nat) (A : Option Addr) (nt kt : Nat) (text : List Int) (A' : Option Addr) (ns ks : Nat) (ss : List Spn) (all : List (Nat × Nat)) (w : World)
    (hall : rns (cls ss) text 0 none = all) (hnt : text.length = nt) (hns : ss.length = ns) (hb1 : nt ≤ 1048576) (hb2 : ns ≤ 1099511627776) (hasc : Asc ss) (hM : Mem Bt Bs A nt kt text A' ns ks ss w) :
    Calls Tryd.prog 67 #[.slice none 0 0, .func (.func 68) #[] #[.pointer (some ⟨Bt, 0, none⟩), .pointer (some ⟨Bs, 0, none⟩)]] w (RetRanges all w) := by
  have hlen : all.length ≤ 1048576 := by rw [← hall]; have := rns_len0 (cls ss) text 0; omega
  obtain ⟨i0, hi0, hz0, hz1, hz2⟩ := info_parts info_range
  refine (callsIn_wide (n := 6)).1 ?_
  refine callsIn_of_wp_marks Tryd.func67 rfl trivial ?_ rfl
  simp only [Tryd.ntmps67, List.size_toArray, List.length_cons, List.length_nil, Nat.reduceAdd, Nat.reduceSub, Array.replicate_succ, Array.replicate_zero, List.push_toArray, List.append_toArray, List.nil_append, List.cons_append]
  gi_wp2
  have bS := Boxed.new w 31 (.slice none 0 0)
  have hB0 : Below w.heap.size w (w.alloc (.cells #[.slice none 0 0] 31)) := (Below.refl _ w).alloc (Nat.le_refl _) _
  have hsz : (w.alloc (.cells #[.slice none 0 0] 31)).heap.size = w.heap.size + 1 := by simp
  have hM0 := hM.below hB0
  obtain ⟨W0, hW0⟩ : ∃ W0, w.alloc (.cells #[.slice none 0 0] 31) = W0 := ⟨_, rfl⟩
  rw [hW0] at bS hB0 hsz hM0 ⊢
  clear hW0
  refine wpIn_rangeFunc_ownH rfl (by omega) (gf := 68) (lb := #[.pointer (some ⟨Bt, 0, none⟩), .pointer (some ⟨Bs, 0, none⟩)]) rfl trivial (enters_of Tryd.func68 (by kernel_rfl) rfl)
    (runs_stops (fun x => x) 5 (by omega) w.heap.size w.heap.size Bt Bs A nt kt text A' ns ks ss all W0 (by rw [hall]; simp) hnt hns (by omega) hb2 hasc ⟨hM.lt_bt, by have := hM.lt_bt; omega⟩ ⟨hM.lt_bs, by have := hM.lt_bs; omega⟩
      (fun hne => Sl.lt hM.tx (by simpa using hne) _ (Nat.le_refl _)) (fun hne => Sl.lt hM.sp (by cases ss with | nil => exact absurd rfl hne | cons s r => simp [flat3]) _ (Nat.le_refl _)) hM0)
    (fun h k => h.trans k) (fun W l o o' hl h hc hw => keepX_of_below (belowK_b (w := W0) (by omega) W l o o' hl h hc hw)) (Below.refl _ _) (fun _ => rfl)
    (fun pre W => (∃ v, Boxed W w.heap.size 31 v ∧ W.ownsRow w.heap.size 75 2 v pre.length (flat2 pre) ∧ True) ∧ Below w.heap.size w W)
    (fun _ _ _ => False)
    (OwnFrom.and (Own.from (holdsRow_own w.heap.size w.heap.size 31 75 2 (fun pre : List (Nat × Nat) => pre.length) flat2 (fun _ _ => True)) _) (ownFrom_below (Nat.le_refl _) (by omega)))
    (fun _ _ _ _ _ hs _ _ => hs)
    ⟨⟨_, bS, World.ownsRow_nil _ _ _ _, trivial⟩, hB0⟩
    (fun x a' W => ∃ Bx, w.heap.size < Bx ∧ W.heap[Bx]? = some (.cells #[.int .i64 (x.1 : Int), .int .i64 (x.2 : Int)] 75 (0, 0)) ∧ a' = { tmps := #[.slice none 0 0, .func (.func 68) #[] #[.pointer (some ⟨Bt, 0, none⟩), .pointer (some ⟨Bs, 0, none⟩)], .pointer (some ⟨w.heap.size, 0, none⟩), undef, .slice none 0 0, .pointer (some ⟨Bx, 0, none⟩), .func (.func 68) #[] #[.pointer (some ⟨Bt, 0, none⟩), .pointer (some ⟨Bs, 0, none⟩)], .agg #[.int .i64 (x.1 : Int), .int .i64 (x.2 : Int)], undef, undef, undef, undef, undef], defers := [] })
    (fun x a' _ X Y row hs hg hr => by
      obtain ⟨Bx, h1, h2, h3⟩ := hs
      refine ⟨Bx, h1, (hg.block Bx (Array.getElem?_eq_some_iff.1 h2).1 (fun e => ?_)).trans h2, h3⟩
      obtain ⟨_, o, ho, hc⟩ := hr Bx e.symm
      rw [h2] at ho; cases ho; cases hc)
    ?assign ?body ?done ?stop
  case assign =>
    rintro l pre x W K ⟨⟨v, bS1, hr1, _⟩, hB1⟩ hK
    unfold encR at *
    gi_wp2
    exact hK _ _ ((KeepsOthers.alloc _ _).from _) (keepX_of_below ((Below.refl _ W).alloc hB1.size _)) ⟨⟨v, bS1.alloc _, hr1.alloc _, trivial⟩, hB1.alloc hB1.size _⟩ ⟨W.heap.size, bS1.lt, heap_alloc_new W _, rfl⟩
  case body =>
    rintro l pre x a' W hl ⟨r, hr⟩ ⟨⟨v, bS1, hr1, _⟩, hB1⟩ ⟨Bx, hBx, bX, rfl⟩ hlt
    obtain ⟨Av, cv, rfl, hcv⟩ := own_form hr1
    have cS := bS1.cell
    have fS := bS1.frozen
    have x0 : W.cell? ⟨Bx, 0, none⟩ = some (.int .i64 (x.1 : Int)) := by rw [cell_of_row W Bx 0 _ _ (0, 0) bX]; rfl
    have x1 : W.cell? ⟨Bx, 1, none⟩ = some (.int .i64 (x.2 : Int)) := by rw [cell_of_row W Bx 1 _ _ (0, 0) bX]; rfl
    have hltS := bS1.lt
    gi_wp2_with (gi_at_builtin; refine wpListIn_append_own _ rfl _ _ 31 rfl w.heap.size 75 i0 (.agg #[.int .i64 0, .int .i64 0]) 2 16 Tryd.underlying31 hi0 hz0 hz1 hz2 rfl (by decide) _ _ _ rfl (hr1.alloc _) ⟨W.heap.size, 0, none⟩ 1 1 [.int .i64 (x.1 : Int), .int .i64 (x.2 : Int)] rfl rfl ?c1 (oneCell_ints [_, _]) (by unfold maxLen; omega) (by omega) (by have := hB1.size; simp; omega) ?_)
    case c1 =>
      intro j u hu
      match j, hu with
      | 0, hu => simp at hu; subst hu; simp [Addr.add]
      | 1, hu => simp at hu; subst hu; simp [Addr.add]
    · intro v' w1 hown' hgrow _
      obtain ⟨Av', cv', rfl, hcv'⟩ := own_form hown'
      obtain ⟨hv1, hv2, hr2, hk2, hb2⟩ := bS1.appended (by decide) hr1 hB1.size (Nat.le_refl _) hown' hgrow
      have hc1 := hv1.cell
      have hf1 := hv1.frozen
      clear hown' hgrow cS fS x0 x1 hr1 bX bS1
      gi_wp2
      refine ⟨hk2.from _, keepX_of_below hb2, ⟨_, hv2, ?_, trivial⟩, hB1.trans hb2⟩
      rw [flat2_snoc, List.length_append]
      exact hr2
  case done =>
    rintro D ys W hD rfl ⟨⟨v, bS1, hr1, _⟩, hB1⟩ hK
    obtain ⟨Av, cv, rfl, hcv⟩ := own_form hr1
    have cS := bS1.cell
    have HRow := Lib.hid (ownsRow_putObj hr1 (.deferred none) hK rfl)
    have HBel := Lib.hid (hB1.trans (belowK_b (w := w) (Nat.le_refl _) W D _ (.deferred none) (by omega) hK rfl rfl))
    gi_wp2
    refine ⟨by simp, .inl ⟨_, _, rfl, run_takeDeferred hK, ?_⟩⟩
    exact ⟨_, results_tmp rfl _ _ _, Av, cv, rfl, hcv, Sl.of_own HRow.out, HBel.out⟩
  case stop =>
    rintro D c pre W _ _ h _
    exact h.elim

theorem Collect_any (Bt Bs : Nat) (A : Option Addr) (nt kt : Nat) (text : List Int) (A' : Option Addr) (ns ks : Nat) (ss : List Spn) (all : List (Nat × Nat)) (w : World)
    (hall : rns (cls ss) text 0 none = all) (hnt : text.length = nt) (hns : ss.length = ns) (hb1 : nt ≤ 1048576) (hb2 : ns ≤ 1099511627776) (hasc : Asc ss) (hM : Mem Bt Bs A nt kt text A' ns ks ss w) :
    Calls Tryd.prog 53 #[.func (.func 68) #[] #[.pointer (some ⟨Bt, 0, none⟩), .pointer (some ⟨Bs, 0, none⟩)]] w (RetRanges all w) := by
  have C := Lib.hid (AppendSeq_any Bt Bs A nt kt text A' ns ks ss all w hall hnt hns hb1 hb2 hasc hM)
  clear hall hnt hns hasc hM
  go_enter Tryd.func53, Tryd.ntmps53
  go_wp2_with fail
  refine C.out.mono ?_
  rintro e w1 ⟨A1, c1, rfl, hc1, hA1, hb1⟩
  go_wp2_with fail
  go_ret
  exact ⟨A1, c1, rfl, hc1, hA1, hb1⟩

theorem Runs_any (A' : Option Addr) (ns ks : Nat) (ss : List Spn) (A : Option Addr) (nt kt : Nat) (text : List Int) (w : World) (hS : Spans w A' ss) (hT : Ints w A text)
    (hnt : text.length = nt) (hns : ss.length = ns) (hb1 : nt ≤ 1048576) (hb2 : ns ≤ 1099511627776) (hL : Laid w) :
    Calls Tryd.prog 33 #[.slice A' ns ks, .slice A nt kt] w (RetRanges (rns (clz ss) text 0 none) w) := by
  have hle := us_len ss
  rw [hns] at hle
  have U := Lib.hid (usable_any A' ns ks ss w hS hns hb2 hL)
  have hasc := Lib.hid (us_asc ss)
  have hcl : clz ss = cls (us ss) := rfl
  rw [hcl]
  clear hS hL hns hcl
  generalize us ss = ts at *
  go_enter Tryd.func33, Tryd.ntmps33
  go_wp2_with fail
  refine U.out.mono ?_
  rintro e w1 ⟨A1, k1, rfl, hA1, hb3⟩
  have hT1 := hT.below hb3
  clear hT U
  go_wp2_with fail
  refine (runs_any A nt kt A1 ts.length k1 w1).mono ?_
  rintro e w2 ⟨rfl, hw2⟩
  have hM : Mem (w1.heap.size + 1) w1.heap.size A nt kt text A1 ts.length k1 ts w2 := by
    rw [← hw2]
    exact ⟨by simp, by simp, Sl.alloc (Sl.alloc hT1 _) _, Sl.alloc (Sl.alloc hA1 _) _⟩
  have hb4 : Below w.heap.size w w2 := by
    rw [← hw2]
    exact (hb3.alloc hb3.size _).alloc (by have := hb3.size; simp; omega) _
  have HM := Lib.hid hM
  clear hw2 hM hT1 hA1 hb3
  go_wp2_with fail
  refine (Collect_any (w1.heap.size + 1) w1.heap.size A nt kt text A1 ts.length k1 ts _ w2 rfl hnt rfl hb1 (by omega) hasc.out HM.out).mono ?_
  rintro e w3 ⟨A3, c3, rfl, hc3, hA3, hb5⟩
  go_wp2_with fail
  go_ret
  exact ⟨A3, c3, rfl, hc3, hA3, hb4.trans (hb5.mono hb4.size)⟩

end Go.Proofs.YtjglanjfgbipmaaDoor
