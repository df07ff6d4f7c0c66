/- Texts that are merged into one file: OpenR, HeldApp, LawH, OpenU. -/
import Derived.Test.YtjglanjfgbipmaaDoorG01
import Derived.Test.YtjglanjfgbipmaaDoorG03
import Derived.Test.YtjglanjfgbipmaaDoorG04
import Derived.Test.YtjglanjfgbipmaaDoorG19
import Derived.Deep.Slices
import Derived.ProofKit
import Derived.OpenShut
import Derived.ShutString
import Derived.ChangeOld
import Derived.Test.YtjglanjfgbipmaaDoorRows
import Derived.Deep.DeepHandedRow
import Derived.Lib.LaidTab
/- How an argument that is a slice of records is opened: its list, where it lies, its bounds. Whatever the records are. -/
namespace Go.Proofs.YtjglanjfgbipmaaDoor
open Go.ChangeShapes Go.WideShapes Go.ChangeAt Go.RowKit

theorem open_recs {H : Type} {enc : TypeId × Value → H} {P : Program} {w : World} {base : Nat} {spare : Nat → Bool} {held : Bool} {t e : TypeId} {α : Type} [Inhabited α] (en : α → List Value) (k : Nat) (k0 : 0 < k) (hk : ∀ x, (en x).length = k) (R : α → Prop)
    (ht : P.underlying t = some (.slice e)) (hc : P.cellsOf e = k)
    (hread : ∀ fuel cs x, cs.length = k → DataW.trod enc P w base spare held fuel e cs = some x → ∃ a : α, cs = en a ∧ R a)
    {fuel : Nat} {cs : List Value} {x : DataW H × List MemPlace} (h : DataW.trod enc P w base spare held fuel t cs = some x) :
    ∃ A len cap, ∃ l : List α, cs = [.slice A len cap] ∧ l.length = len ∧ len ≤ cap ∧ cap ≤ 9223372036854775807 ∧ Recs en w A l ∧ ∀ a ∈ l, R a := by
  rcases Deep.open_slice ht h with ⟨hcs, _⟩ | ⟨a, l, c, m, n, D, Pl, hcs, hb, hl, hm, hmm, _, hx⟩
  · exact ⟨none, 0, 0, [], hcs, rfl, Nat.le_refl _, by omega, Sl.nil _ _, fun _ h => by cases h⟩
  · unfold maxLen at hm
    have hlm : l ≤ m := by rw [hmm]; split <;> omega
    have each : ∀ i, i < l → ∃ q : α, (∀ j, j < k → w.cell? (a.add (i * k + j)) = (en q)[j]?) ∧ R q := by
      intro i hi
      obtain ⟨cs', h1, h2⟩ := hx i (by omega)
      rw [hc] at h1
      obtain ⟨_, hlen, hcell⟩ := World.cells?_some h1
      obtain ⟨q, hq, hr⟩ := hread _ _ _ hlen h2
      refine ⟨q, fun j hj => ?_, hr⟩
      have := hcell j hj
      rw [Deep.add_add, hq] at this
      exact this
    obtain ⟨V, hV⟩ := Deep.choose_lt each
    refine ⟨some a, l, c, (List.range l).map V, hcs, by simp, hl, hm, ?_, fun y hy => ?_⟩
    · intro hne
      have hlen : 0 < l := by
        rcases Nat.eq_zero_or_pos l with h0 | h0
        · subst h0; simp [flatK] at hne
        · exact h0
      obtain ⟨b, off, spot⟩ := a
      have hz := (hV 0 hlen).1 0 k0
      have hspot : spot = none := by
        have h1 : 0 < (en (V 0)).length := by rw [hk]; exact k0
        rw [List.getElem?_eq_getElem h1] at hz
        simpa [Addr.add] using World.cell?_spot hz
      subst hspot
      refine ⟨b, off, rfl, fun j u hu => ?_⟩
      have addp : ∀ i, (⟨b, off, none⟩ : Addr).add i = ⟨b, off + i, none⟩ := fun i => by
        unfold Addr.add
        split
        · next h0 => subst h0; rfl
        · rfl
      have hj : j < l * k := by
        have := (List.getElem?_eq_some_iff.1 hu).1
        rw [flatK_len en k hk] at this
        simpa using this
      have hi : j / k < l := (Nat.div_lt_iff_lt_mul k0).2 hj
      have hr : j % k < k := Nat.mod_lt _ k0
      have hjj : j / k * k + j % k = j := by rw [Nat.mul_comm]; exact Nat.div_add_mod j k
      have h1 := flatK_get en k hk ((List.range l).map V) (j / k) (j % k) (by simpa using hi) hr
      rw [hjj, hu] at h1
      have h2 := (hV (j / k) hi).1 (j % k) hr
      rw [hjj, addp] at h2
      simp only [List.getElem_map, List.getElem_range] at h1
      rw [h2, ← h1]
    · obtain ⟨i, hi, rfl⟩ := List.mem_map.1 hy
      exact (hV i (List.mem_range.1 hi)).2
end Go.Proofs.YtjglanjfgbipmaaDoor
/- Steps of a held drawn region that write: a store, an append to an owned row. -/
namespace Go.Proofs.YtjglanjfgbipmaaDoor
open Go.RowKit

section
variable {P : Program} {ops : Array Oper} {Q : Exit → Act → World → Prop} {md : Region.Mode} {S : World → Prop}
/-- an operation that yields nothing and changes the world, the only one that may come up -/
theorem anyH_unit {i : Nat} {oi : Oper} {fuel : Nat} {listed : Array Bool} {a : Act} {w w' : World} (d : Option Tmp) (hi : ops[i]? = some oi) (hd : oi.dst = d)
    (hr : Region.ready md ops listed = [i]) (hw : Region.wanted oi (yielded ops a.tmps) = true) (he : (execOp a.eval oi).run P w = .ok .skip w') (hS : S w')
    (h : wpAnyH P md ops Q S fuel (listed.setIfInBounds i true) (a.put d undef) w') : wpAnyH P md ops Q S (fuel + 1) listed a w := by
  subst hd
  refine anyH_do hi hr hw (fun K hK => ?_)
  unfold Oper.wp
  rw [he]
  simp only [Oper.upon]
  exact hK.out _ _ hS (fun _ => h)
/-- an append to an owned row, the only operation that may come up -/
theorem anyH_app {i : Nat} {oi : Oper} {fuel : Nat} {listed : Array Bool} {a : Act} {w : World} (d : Option Tmp) (hi : ops[i]? = some oi) (hd : oi.dst = d)
    (hr : Region.ready md ops listed = [i]) (hw : Region.wanted oi (yielded ops a.tmps) = true) (s x : Operand) (t e : TypeId) (z : Value) (size bytes : Nat)
    (ho : oi.op = .call { callee := .builtin .append, args := #[s, x], argTypes := #[t, t] }) (ht : P.underlying t = some (.slice e))
    (hinfo : (P.info? e).map (fun i => (i.zero, i.size, i.bytes)) = some (some z, size, bytes)) (hzs : z.cells.size = size) (hsz : 0 < size) (hby : 0 < bytes)
    {base : Nat} {A : Option Addr} {n c : Nat} {xs : List Value} (hs : a.eval s = .slice A n c) (hown : w.ownsRow base e size (.slice A n c) n xs)
    {A' : Option Addr} {m c' : Nat} {news : List Value} (hx : a.eval x = .slice A' m c') (hrow : Sl w A' news) (hl : news.length = m * size) (h1 : ∀ u ∈ news, u.oneCell' = true)
    (hlim : (n + m) * bytes ≤ 140737488355328) (hbase : base ≤ w.heap.size)
    (h : ∀ B k w', w'.ownsRow base e size (.slice B (n + m) k) (n + m) (xs ++ news) → n + m ≤ k → Below base w w' → w.grownBy w' (Value.ownBlock (.slice A n c)) → (B = A ∨ B = some ⟨w.heap.size, 0, none⟩) →
      S w' ∧ wpAnyH P md ops Q S fuel (listed.setIfInBounds i true) (a.put d (.slice B (n + m) k)) w') : wpAnyH P md ops Q S (fuel + 1) listed a w := by
  subst hd
  refine anyH_do hi hr hw (fun K hK => ?_)
  obtain ⟨B, k, w', hrun, h2, h3, h4, h5, h6⟩ := run_app (P := P) t oi.type e z size bytes ht hinfo hzs hsz hby hown (c' := c') hrow hl h1 hlim hbase
  unfold Oper.wp execOp
  simp only [ho, resolve, invoke, builtin, Sem.run_bind, Sem.run_pure, Result.andThen_ok, List.map_toArray, List.map_cons, List.map_nil, hs, hx, hrun]
  have := h B k w' h2 h3 h4 h5 h6
  exact hK.out _ _ this.1 (fun _ => this.2)
end

section
variable {P : Program} {w : World}
/-- an append to no row -/
theorem wpList_app0 {ops : Array Oper} {rest : List Oper} {o : Oper} {a : Act} {Q : Exit → Act → World → Prop} (s x : Operand) (t e : TypeId) (z : Value) (size bytes : Nat)
    (hgd : o.guard = none) (ho : o.op = .call { callee := .builtin .append, args := #[s, x], argTypes := #[t, t] }) (ht : P.underlying t = some (.slice e))
    (hinfo : (P.info? e).map (fun i => (i.zero, i.size, i.bytes)) = some (some z, size, bytes)) (hzs : z.cells.size = size) (hsz : 0 < size) (hby : 0 < bytes)
    (hs : a.eval s = .slice none 0 0)
    {A' : Option Addr} {m c' : Nat} {news : List Value} (hx : a.eval x = .slice A' m c') (hr : Sl w A' news) (hl : news.length = m * size) (h1 : ∀ u ∈ news, u.oneCell' = true)
    (hlim : m * bytes ≤ 140737488355328)
    (h : ∀ B k w', w'.ownsRow w.heap.size e size (.slice B m k) m news → m ≤ k → Below w.heap.size w w' → wpList P ops Q rest (a.put o.dst (.slice B m k)) w') : wpList P ops Q (o :: rest) a w := by
  refine wpList_app s x t e z size bytes hgd ho ht hinfo hzs hsz hby hs (World.ownsRow_nil w w.heap.size _ _) hx hr hl h1 (by rw [Nat.zero_add]; exact hlim) (Nat.le_refl _) ?_
  intro B k w' h2 h3 h4 _ _
  rw [Nat.zero_add] at *
  exact h B k w' h2 h3 h4
end
end Go.Proofs.YtjglanjfgbipmaaDoor
/- The walk of the law ComposeHangul. -/
namespace Go.Proofs.YtjglanjfgbipmaaDoor
open Go.RowKit Go.Maps Go.WideMaps

/-- 16-bit numbers that lie in memory -/
def U16s (w : World) (A : Option Addr) (l : List Int) : Prop := Sl w A (l.map (Value.int .u16))
theorem U16s.at {w : World} {A : Option Addr} {l : List Int} (h : U16s w A l) {k : Nat} (hk : k < l.length) : ∃ b o, A = some ⟨b, o, none⟩ ∧ w.cell? ⟨b, o + k, none⟩ = some (.int .u16 l[k]) := by
  obtain ⟨b, o, hA, hc⟩ := Sl.at h (k := k) (by simpa using hk)
  exact ⟨b, o, hA, hc k _ (by simp [hk])⟩
/-- the syllable of a number -/
def sylOf (z : Int) : Int := 44032 + z % 11172
theorem sylOf_kind {z : Int} : 4 ≤ Hg.kind (sylOf z) := by
  unfold sylOf
  have h1 : 0 ≤ z % 11172 := Int.emod_nonneg _ (by omega)
  have h2 : z % 11172 < 11172 := Int.emod_lt_of_pos _ (by omega)
  rcases Hg.cases6 (44032 + z % 11172) with g | g | g | g | g | g <;> omega
theorem sylOf_bd (z : Int) : 44032 ≤ sylOf z ∧ sylOf z ≤ 55203 := by
  unfold sylOf
  have h1 : 0 ≤ z % 11172 := Int.emod_nonneg _ (by omega)
  have h2 : z % 11172 < 11172 := Int.emod_lt_of_pos _ (by omega)
  omega
def sylL (l : List Int) : List Int := l.map sylOf
def prtL (l : List Int) : List Int := (sylL l).flatMap Hg.decomp
theorem sylL_take {l : List Int} {i : Nat} (hi : i < l.length) : sylL (l.take (i + 1)) = sylL (l.take i) ++ [sylOf l[i]] := by
  unfold sylL
  rw [List.take_succ_eq_append_getElem hi, List.map_append]
  rfl
theorem prtL_take {l : List Int} {i : Nat} (hi : i < l.length) : prtL (l.take (i + 1)) = prtL (l.take i) ++ Hg.decomp (sylOf l[i]) := by
  unfold prtL
  rw [sylL_take hi, List.flatMap_append]
  simp
theorem prtL_len (l : List Int) : (prtL l).length ≤ 3 * l.length := by
  unfold prtL sylL
  induction l with
  | nil => simp
  | cons z l ih =>
    have := (decomp_kids (sylOf_kind (z := z))).1
    rw [List.map_cons, List.flatMap_cons, List.length_append, List.length_cons]
    omega
theorem prtL_iok (l : List Int) : ∀ c ∈ prtL l, iok c := by
  intro c hc
  unfold prtL at hc
  obtain ⟨s, hs, hc⟩ := List.mem_flatMap.1 hc
  unfold sylL at hs
  obtain ⟨z, _, rfl⟩ := List.mem_map.1 hs
  exact iok_code ((decomp_kids (sylOf_kind (z := z))).2 c hc).1
def e0N : Nrm := ⟨[], [], []⟩
theorem e0_us : usN e0N = e0N := by unfold usN; split <;> rfl
theorem e0_cl : clz e0N.cls = fun _ => 0 := by
  funext c
  show clz [] c = 0
  unfold clz us
  split <;> rfl
theorem e0_pr : prN e0N = Cps.hpr := by
  funext a b
  unfold prN prM prL Cps.hpr e0N
  split <;> rfl
theorem e0_sz : NrmSz e0N := ⟨by decide, ⟨by decide, fun i hi => by simp [e0N] at hi⟩, by decide⟩
theorem e0_text (l : List Int) : Cps.text (clz (usN e0N).cls) (prN (usN e0N)) (prtL l) = sylL l := by
  rw [e0_us, e0_cl, e0_pr]
  unfold prtL
  exact Cps.text_syls _ (fun y hy => by
    unfold sylL at hy
    obtain ⟨z, _, rfl⟩ := List.mem_map.1 hy
    exact sylOf_kind)

/-- the block of an owned row after an append is not that of another value -/
theorem ne_app {w : World} {B B1 : Option Addr} {n c n1 c1 : Nat} {v : Value} (h : ∀ j, Value.ownBlock (.slice B n c) = some j → v.ownBlock ≠ some j) (hB : B1 = B ∨ B1 = some ⟨w.heap.size, 0, none⟩) (hlt : ∀ j, v.ownBlock = some j → j < w.heap.size) :
    ∀ j, Value.ownBlock (.slice B1 n1 c1) = some j → v.ownBlock ≠ some j := by
  intro j hj e
  rcases hB with h9 | h9 <;> rw [h9] at hj
  · refine h j ?_ e
    cases B with
    | none => simp [Value.ownBlock] at hj
    | some q => simpa [Value.ownBlock] using hj
  · simp only [Value.ownBlock, Option.some.injEq] at hj
    have := hlt j e
    omega
theorem kept_ne {w w' : World} {base size n n2 c2 : Nat} {e : TypeId} {v : Value} {xs : List Value} {B : Option Addr} (h : w.ownsRow base e size v n xs) (hg : w.grownBy w' (Value.ownBlock (.slice B n2 c2))) (hne : ∀ j, Value.ownBlock (.slice B n2 c2) = some j → v.ownBlock ≠ some j) : w'.ownsRow base e size v n xs := by
  refine h.kept hg ?_
  cases ho : v.ownBlock with
  | none => exact .inl rfl
  | some j => exact .inr (fun e' => hne j e'.symm ho)

set_option maxRecDepth 100000 in
set_option maxHeartbeats 6400000 in
theorem ComposeHangul_any (A : Option Addr) (n a : Nat) (l : List Int) (w : World) (hA : U16s w A l) (hn : l.length = n) (hl : ∀ z ∈ l, 0 ≤ z ∧ z ≤ 65535) (hL : Laid w) :
    Calls Tryd.prog 3 #[.slice A n a] w (RetTrue w) := by
  subst hn
  have HA := Lib.hid (fun W (hb : Below w.heap.size w W) => show U16s W A l from Sl.below hA hb)
  have HLd := Lib.hid (fun W (hb : Below w.heap.size w W) => hL.below hb)
  have HR := Lib.hid hl
  have AW := Lib.hid (fun W (hb : Below w.heap.size w W) => awake_any W (HLd.out W hb))
  have DC := Lib.hid (fun c W => refDecompose_any c W)
  have ST := Lib.hid (fun i (hi : i < l.length) => sylL_take hi)
  have PT := Lib.hid (fun i (hi : i < l.length) => prtL_take hi)
  have SN := Lib.hid (fun i => show (sylL (l.take i)).length ≤ i from by unfold sylL; rw [List.length_map, List.length_take]; omega)
  have PN := Lib.hid (fun i => show (prtL (l.take i)).length ≤ 3 * i from by have := prtL_len (l.take i); rw [List.length_take] at this; omega)
  have S0 := Lib.hid (show sylL (l.take 0) = [] from rfl)
  have P0 := Lib.hid (show prtL (l.take 0) = [] from rfl)
  have EN := Lib.hid (show l.take l.length = l from List.take_length)
  have TC := Lib.hid (fun D m d W (hb : Below w.heap.size w W) (hD : Ints W D (prtL l)) (hm : (prtL l).length = m) (hm2 : m ≤ 1048576) => cpText_any none 0 0 none 0 0 none 0 0 e0N D m d (prtL l) W (NrmAt.empty W) e0_sz (HLd.out W hb) hD hm hm2 (prtL_iok l))
  rw [e0_text] at TC
  have SB := Lib.hid (fun z => sylOf_bd z)
  have SE := Lib.hid (fun z => show sylOf z = 44032 + z % 11172 from rfl)
  clear hA hL hl
  go_enter Tryd.func3, Tryd.ntmps3
  by_cases h60 : 60 < l.length
  · have d60 : decide ((60 : Int) < (l.length : Int)) = true := by simp; omega
    clear h60
    go_wp2_with fail
    with_reducible refine (AW.out w (Below.refl _ _)).mono ?_
    rintro e W9 ⟨rfl, hb9⟩
    go_wp2_with fail
    go_ret
    exact ⟨rfl, hb9⟩
  · have d60 : decide ((60 : Int) < (l.length : Int)) = false := by simp; omega
    go_wp2_with fail
    go_loopw [3, 4, 5] (fun v3 v4 u wr => ∃ (i : Nat) (S : Option Addr) (c : Nat) (P : Option Addr) (d : Nat), i ≤ l.length ∧ u = .int .i64 i ∧ v3 = .slice S (sylL (l.take i)).length c ∧ v4 = .slice P (prtL (l.take i)).length d ∧ wr.ownsRow w.heap.size 3 1 (.slice S (sylL (l.take i)).length c) (sylL (l.take i)).length ((sylL (l.take i)).map (Value.int .i64)) ∧ wr.ownsRow w.heap.size 3 1 (.slice P (prtL (l.take i)).length d) (prtL (l.take i)).length ((prtL (l.take i)).map (Value.int .i64)) ∧ (∀ j, Value.ownBlock (.slice S (sylL (l.take i)).length c) = some j → Value.ownBlock (.slice P (prtL (l.take i)).length d) ≠ some j) ∧ Below w.heap.size w wr) (fun _ _ u _ => l.length - (intOf u).toNat)
    case atStart =>
      refine ⟨0, none, 0, none, 0, Nat.zero_le _, rfl, by rw [S0.out]; rfl, by rw [P0.out]; rfl, by rw [S0.out]; exact World.ownsRow_nil _ _ _ _, by rw [P0.out]; exact World.ownsRow_nil _ _ _ _, fun j hj => ?_, Below.refl _ _⟩
      simp [Value.ownBlock] at hj
    case round =>
      obtain ⟨i, S, c, P, d, hi, rfl, rfl, rfl, hS, hP, hne, hb⟩ := hrel
      have HS := Lib.hid hS; have HP := Lib.hid hP; have HNE := Lib.hid hne
      clear hS hP hne
      by_cases hlt : i < l.length
      · obtain ⟨b1, o1, rfl, c0⟩ := (HA.out wr hb).at hlt
        have hz := HR.out l[i] (List.getElem_mem hlt)
        have STI := Lib.hid (ST.out i hlt)
        have PTI := Lib.hid (PT.out i hlt)
        have hsn := SN.out i
        have hpn := PN.out i
        generalize l[i] = z at *
        have hsb := SB.out z
        have hse := SE.out z
        have DZ := Lib.hid (DC.out (sylOf z))
        have hdl := (decomp_kids (sylOf_kind (z := z))).1
        generalize hs9 : sylOf z = s at *
        generalize hd9 : Hg.decomp s = ds at *
        generalize hX : sylL (l.take i) = X at *
        generalize hY : prtL (l.take i) = Y at *
        clear hs9 hd9 hX hY
        have v1 : IntKind.i64.wrap z = z := IntWalk.i64_in _ (by omega)
        have v2 : Int.tmod z 11172 = z % 11172 := Int.tmod_eq_emod_of_nonneg hz.1
        have v3 : IntKind.i64.wrap (z % 11172) = z % 11172 := IntWalk.i64_in _ (by omega)
        have v4 : IntKind.i64.wrap (44032 + z % 11172) = s := by rw [IntWalk.i64_in _ (by omega)]; exact hse.symm
        clear hse
        go_wp2_with (first | (at_builtin; refine wpList_app _ _ 24 3 (.int .i64 0) 1 8 rfl rfl Tryd.underlying24 info_int rfl (by decide) (by decide) rfl (HS.out.alloc _) rfl (Sl_new wr [.int .i64 s] 3 rfl) (by simp) (oneCell_ints [s]) (by omega) (by have := hb.size; simp; omega) ?_; intro S1 c1 w1 hS1 hc1 hb1 hg1 hB1))
        have hal := (Below.refl wr.heap.size wr).alloc (Nat.le_refl _) (.cells #[.int .i64 s] 3)
        have hP1 := kept_ne (own_keep HP.out hal) hg1 HNE.out
        have HNE1 := Lib.hid (ne_app (n1 := X.length + 1) (c1 := c1) HNE.out hB1 (fun j hj => ((own_keep HP.out hal).lt j hj).2))
        have hbb := (hb.trans (hal.mono hb.size)).trans hb1
        have HS1 := Lib.hid hS1; have HP1 := Lib.hid hP1
        clear hS1 hP1 hg1 hB1 hb1 hal
        with_reducible refine (DZ.out w1).mono ?_
        rintro e W2 ⟨E, dd, rfl, hdd, hE, hb2⟩
        have HS2 := Lib.hid (own_keep HS1.out hb2)
        have HP2 := Lib.hid (own_keep HP1.out hb2)
        have hbw := hbb.trans (hb2.mono hbb.size)
        go_wp2_with (at_builtin; refine wpList_app _ _ 24 3 (.int .i64 0) 1 8 rfl rfl Tryd.underlying24 info_int rfl (by decide) (by decide) rfl HP2.out rfl hE (by simp) (oneCell_ints _) (by omega) hbw.size ?_; intro P3 d3 w3 hP3 hd3 hb3 hg3 hB3)
        have hne2 : ∀ j, Value.ownBlock (.slice P Y.length d) = some j → Value.ownBlock (.slice S1 (X.length + 1) c1) ≠ some j := fun j hj e => HNE1.out j e hj
        have hS3 := kept_ne HS2.out hg3 hne2
        have hne3 := ne_app (n1 := Y.length + ds.length) (c1 := d3) hne2 hB3 (fun j hj => (HS2.out.lt j hj).2)
        have HS3 := Lib.hid hS3; have HP3 := Lib.hid hP3; have HNE3 := Lib.hid (fun j (hj : Value.ownBlock (.slice S1 (X.length + 1) c1) = some j) (e : Value.ownBlock (.slice P3 (Y.length + ds.length) d3) = some j) => hne3 j e hj)
        have hbz := hbw.trans hb3
        clear hS3 hP3 hne2 hne3 hg3 hB3 hb3 hE
        go_roundw
        case rel =>
          refine ⟨i + 1, S1, c1, P3, d3, by omega, by go_num, by rw [STI.out, List.length_append]; rfl, by rw [PTI.out, List.length_append], by rw [STI.out, List.length_append, List.map_append]; exact HS3.out, by rw [PTI.out, List.length_append, List.map_append]; exact HP3.out, ?_, hbz⟩
          rw [STI.out, PTI.out, List.length_append, List.length_append]
          exact HNE3.out
        case measure => simp [intOf]; omega
      · obtain rfl : i = l.length := by omega
        rw [EN.out] at HS HP ⊢
        have hpl := prtL_len l
        have hsl := SN.out l.length
        rw [EN.out] at hsl
        have HI := Lib.hid (show Ints wr S (sylL l) from Sl.of_own HS.out)
        have TD := Lib.hid (TC.out P (prtL l).length d wr hb (Sl.of_own HP.out) rfl (by omega))
        clear HNE HS HP TC ST PT SN PN S0 P0 EN
        generalize sylL l = X at *
        generalize prtL l = Y at *
        go_wp2_with fail
        with_reducible refine TD.out.mono ?_
        rintro e W2 ⟨E, dd, rfl, hdd, hE, hb2⟩
        have hbw := hb.trans (hb2.mono hb.size)
        have KE := Lib.hid ((Equal_any E S X.length X.length dd c X X W2 hE (HI.out.below hb2) rfl rfl (by omega) (by omega)).mono (R' := fun e w' => e = .returned (.bool true) ∧ Qt W2 w') (fun e w' h => ⟨by rw [h.1, decide_eq_true rfl], h.2⟩))
        clear hE
        go_wp2_with fail
        with_reducible refine KE.out.mono ?_
        rintro e W3 ⟨rfl, hq⟩
        have hbx := hbw.trans (hq.below.mono hbw.size)
        go_wp2_with fail
        with_reducible refine (AW.out W3 hbx).mono ?_
        rintro e W9 ⟨rfl, hb9⟩
        have hbn := hbx.trans (hb9.mono hbx.size)
        go_wp2_with fail
        go_ret
        exact ⟨rfl, hbn⟩
end Go.Proofs.YtjglanjfgbipmaaDoor
/- How an argument that is a slice of 16-bit numbers is opened; what the list of variables of a row gives. -/
namespace Go.Proofs.YtjglanjfgbipmaaDoor
open Go.ChangeShapes Go.WideShapes Go.ChangeAt Go.RowKit

theorem open_u16 {H : Type} {enc : TypeId × Value → H} {w : World} {base : Nat} {spare : Nat → Bool} {held : Bool} {A : Option Addr} {len cap : Nat} {d : DataW H} {p : List MemPlace}
    (h : DataW.Trod enc Tryd.prog w base spare held 22 (.slice A len cap) d p) :
    ∃ l : List Int, l.length = len ∧ len ≤ cap ∧ cap ≤ 9223372036854775807 ∧ U16s w A l ∧ ∀ z ∈ l, 0 ≤ z ∧ z ≤ 65535 := by
  obtain ⟨fuel, hf⟩ := h
  obtain ⟨A', len', cap', l, h1, h2, h3, h4, h5, h6⟩ := open_recs (α := Int) (fun z => [.int .u16 z]) 1 (by omega) (fun _ => rfl) (fun z => 0 ≤ z ∧ z ≤ 65535) Tryd.underlying22 (by kernel_rfl) (fun fuel cs x hl hx => by
    obtain ⟨z, hz, _, hw⟩ := DataW.trod_int Tryd.underlying25 hx
    exact ⟨z, hz, by simpa [Lit.wf, IntKind.min, IntKind.max, IntKind.signed, IntKind.bits] using hw⟩) hf
  simp [Value.cells] at h1
  obtain ⟨rfl, rfl, rfl⟩ := h1
  refine ⟨l, h2, h3, h4, ?_, h6⟩
  unfold Recs flatK at h5
  unfold U16s
  rw [show l.map (Value.int .u16) = l.flatMap (fun z => [.int .u16 z]) by clear h2 h3 h4 h5 h6; induction l <;> simp_all]
  exact h5

theorem gName : Tryd.prog.globalNamed "unicodetext/ordering.hangulRanges" = some 0 := by kernel_rfl
theorem gType : (Tryd.prog.globals[0]?).map (·.type) = some 89 := by kernel_rfl

/-- what the rows' list of variables gives -/
theorem laid_of {W : World} (h : laidMet Tryd.prog [("unicodetext/ordering.hangulRanges", Rows.laid_unicodetext_ordering_hangulRanges)] W) : Laid W := by
  obtain ⟨ps, ⟨g', t', cs, fuel, p, q, hg', ht', hvar, hd, _, _⟩, _⟩ := h
  obtain rfl := Option.some.inj (gName.symm.trans hg')
  obtain rfl := Option.some.inj (gType.symm.trans ht')
  have cr : Tryd.prog.cellsOf 75 = 2 := by kernel_rfl
  have ci : Tryd.prog.cellsOf 3 = 1 := by kernel_rfl
  obtain ⟨xs, m, _, hxy, hlen, hxl, hel⟩ := DataW.trod_array Tryd.underlying89 hd
  match xs, hxl with
  | [y0, y1, y2, y3], _ =>
    simp only [Rows.laid_unicodetext_ordering_hangulRanges, Prod.mk.injEq, DataW.agg.injEq, List.map_cons, List.map_nil, List.cons.injEq, and_true] at hxy
    obtain ⟨⟨e0, e1, e2, e3⟩, _⟩ := hxy
    have pair : ∀ (enc : TypeId × Value → Unit) (base : Nat) (spare : Nat → Bool) (held : Bool) (i : Nat) (a b : Int) (y : DataW Unit × List MemPlace), DataW.trod enc Tryd.prog W base spare held m 75 ((cs.toList.drop (i * 2)).take 2) = some y → .agg [.lit (.int .i64 a), .lit (.int .i64 b)] = y.1 → cs.toList[i * 2]? = some (.int .i64 a) ∧ cs.toList[i * 2 + 1]? = some (.int .i64 b) := by
      intro enc base spare held i a b y hy he
      obtain ⟨zs, k, _, hz, hzl, hzn, hfs⟩ := DataW.trod_struct Tryd.underlying75 hy
      match zs, hzn with
      | [u0, u1], _ =>
        have g0 := hfs 0 _ rfl
        have g1 := hfs 1 _ rfl
        obtain ⟨z0, f0, rfl, _⟩ := DataW.trod_int Tryd.underlying3 g0
        obtain ⟨z1, f1, rfl, _⟩ := DataW.trod_int Tryd.underlying3 g1
        subst hz
        simp at he
        obtain ⟨rfl, rfl⟩ := he
        have h0 := congrArg (·[0]?) f0
        have h1 := congrArg (·[0]?) f1
        simp [ci, List.getElem?_drop] at h0 h1
        exact ⟨by simpa using h0, by simpa using h1⟩
    rw [cr] at hel
    have p0 := pair _ _ _ _ 0 _ _ _ (hel 0 (by omega)) e0
    have p1 := pair _ _ _ _ 1 _ _ _ (hel 1 (by omega)) e1
    have p2 := pair _ _ _ _ 2 _ _ _ (hel 2 (by omega)) e2
    have p3 := pair _ _ _ _ 3 _ _ _ (hel 3 (by omega)) e3
    have cell := fun i => World.var?_cell gName hvar i
    simp only [← Array.getElem?_toList] at cell
    exact ⟨(cell 0).trans p0.1, (cell 1).trans p0.2, (cell 2).trans p1.1, (cell 3).trans p1.2, (cell 4).trans p2.1, (cell 5).trans p2.2, (cell 6).trans p3.1, (cell 7).trans p3.2⟩

end Go.Proofs.YtjglanjfgbipmaaDoor
