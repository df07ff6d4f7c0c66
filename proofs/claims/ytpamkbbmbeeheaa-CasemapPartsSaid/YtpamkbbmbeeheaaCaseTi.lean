/- The contracts of casemap.divides and of Title's closure. Written by gen_caseti.py. -/
import Derived.Test.YtpamkbbmbeeheaaCaseL
namespace Go.Proofs.Ytpamkbbmbeeheaa
open Go.RowKit Go.Maps Go.WideMaps

set_option maxRecDepth 100000 in
set_option maxHeartbeats 6400000 in
theorem divides_any (A : Option Addr) (n a : Nat) (ps : List Rg) (m : Int) (w : World) (hA : Rgs w A ps) (hn : ps.length = n) (hb : n ≤ 1048576) :
    Calls Try.prog 52 #[.slice A n a, .int .i64 m] w (RetBool (withinL m 0 ps) w) := by
  subst hn
  have HA := Lib.hid hA
  have WB := Lib.hid (fun a k hk h => withinL_bad (n := m) (a := a) (ps := ps) (k := k) hk h)
  have WN := Lib.hid (fun a k hk h => withinL_next (n := m) (a := a) (ps := ps) (k := k) hk h)
  have WE := Lib.hid (fun a k (hk : ps.length ≤ k) => show withinL m a (ps.drop k) = true by rw [List.drop_of_length_le hk]; rfl)
  have W0 := Lib.hid (show withinL m 0 ps = withinL m 0 (ps.drop 0) from rfl)
  generalize withinL m 0 ps = R at *
  clear hA
  go_enter Try.func52, Try.ntmps52
  go_wp2_with fail
  go_loopw [5, 7, 10] (fun ua _ u wr => ∃ (k : Nat) (at_ : Int), k ≤ ps.length ∧ u = .int .i64 k ∧ ua = .int .i64 at_ ∧ R = withinL m at_ (ps.drop k) ∧ Below w.heap.size w wr) (fun _ _ u _ => ps.length - (intOf u).toNat)
  case atStart => exact ⟨0, 0, Nat.zero_le _, rfl, rfl, W0.out, Below.refl _ _⟩
  case round =>
    obtain ⟨k, at_, hk, rfl, rfl, hR, hbr⟩ := hrel
    have HR := Lib.hid hR
    clear hR
    by_cases hlt : k < ps.length
    · obtain ⟨b1, o1, rfl, hbl, hcell⟩ := (HA.out.below hbr).at hlt
      obtain ⟨c1, c2⟩ := hcell k hlt
      have HB := Lib.hid (fun h => HR.out.trans (WB.out at_ k hlt h))
      have HN := Lib.hid (fun h => HR.out.trans (WN.out at_ k hlt h))
      have hbn := hbr.alloc hbr.size (.cells #[.int .i64 ps[k].lo, .int .i64 ps[k].hi] 48)
      clear hcell
      generalize ps[k] = p at *
      obtain ⟨lo, hi⟩ := p
      dsimp only at *
      by_cases h1 : lo < at_
      · have q1 : decide (lo < at_) = true := by simpa using h1
        obtain rfl := HB.out (.inl h1)
        clear HB HN HR
        go_wp2_with fail
        go_ret
        exact ⟨rfl, hbn⟩
      · have q1 : decide (lo < at_) = false := by simpa using h1
        by_cases h2 : hi < lo
        · have q2 : decide (hi < lo) = true := by simpa using h2
          obtain rfl := HB.out (.inr (.inl h2))
          clear HB HN HR
          go_wp2_with fail
          go_ret
          exact ⟨rfl, hbn⟩
        · have q2 : decide (hi < lo) = false := by simpa using h2
          by_cases h3 : m < hi
          · have q3 : decide (m < hi) = true := by simpa using h3
            obtain rfl := HB.out (.inr (.inr h3))
            clear HB HN HR
            go_wp2_with fail
            go_ret
            exact ⟨rfl, hbn⟩
          · have q3 : decide (m < hi) = false := by simpa using h3
            have HQ := Lib.hid (HN.out (by omega))
            clear HB HN HR
            go_wp2_with fail
            go_roundw
            case rel => exact ⟨k + 1, hi, by omega, by go_num, rfl, HQ.out, hbn⟩
            case measure => simp [intOf]; omega
    · obtain rfl := HR.out.trans (WE.out at_ k (by omega))
      go_wp2_with fail
      go_ret
      exact ⟨rfl, hbr⟩

section
variable {P : Program} {ops : Array Oper} {Q : Exit → Act → World → Prop} {md : Region.Mode} {S : World → Prop}
/-- an append to an owned row, the only operation that may come up -/
theorem anyH_app {i : Nat} {oi : Oper} {fuel : Nat} {listed : Array Bool} {a : Act} {w : World} (d : Option Tmp) (hi : ops[i]? = some oi) (hd : oi.dst = d)
    (hr : Region.ready md ops listed = [i]) (hw : Region.wanted oi (yielded ops a.tmps) = true) (s x : Operand) (t e : TypeId) (z : Value) (size bytes : Nat)
    (ho : oi.op = .call { callee := .builtin .append, args := #[s, x], argTypes := #[t, t] }) (ht : P.underlying t = some (.slice e))
    (hinfo : (P.info? e).map (fun i => (i.zero, i.size, i.bytes)) = some (some z, size, bytes)) (hzs : z.cells.size = size) (hsz : 0 < size) (hby : 0 < bytes)
    {base : Nat} {A : Option Addr} {n c : Nat} {xs : List Value} (hs : a.eval s = .slice A n c) (hown : w.ownsRow base e size (.slice A n c) n xs)
    {A' : Option Addr} {m c' : Nat} {news : List Value} (hx : a.eval x = .slice A' m c') (hrow : Sl w A' news) (hl : news.length = m * size) (h1 : ∀ u ∈ news, u.oneCell' = true)
    (hlim : (n + m) * bytes ≤ 140737488355328) (hbase : base ≤ w.heap.size)
    (h : ∀ B k w', w'.ownsRow base e size (.slice B (n + m) k) (n + m) (xs ++ news) → n + m ≤ k → Below base w w' → w.grownBy w' (Value.ownBlock (.slice A n c)) → (B = A ∨ B = some ⟨w.heap.size, 0, none⟩) →
      S w' ∧ wpAnyH P md ops Q S fuel (listed.setIfInBounds i true) (a.put d (.slice B (n + m) k)) w') : wpAnyH P md ops Q S (fuel + 1) listed a w := by
  subst hd
  refine anyH_do hi hr hw (fun K hK => ?_)
  obtain ⟨B, k, w', hrun, h2, h3, h4, h5, h6⟩ := run_app (P := P) t oi.type e z size bytes ht hinfo hzs hsz hby hown (c' := c') hrow hl h1 hlim hbase
  unfold Oper.wp execOp
  simp only [ho, resolve, invoke, builtin, Sem.run_bind, Sem.run_pure, Result.andThen_ok, List.map_toArray, List.map_cons, List.map_nil, hs, hx, hrun]
  have := h B k w' h2 h3 h4 h5 h6
  exact hK.out _ _ this.1 (fun _ => this.2)
end

/-- the memory of Title's closure: what has been written, and how far -/
structure TiSt (base br ba : Nat) (w : World) (out : List Int) (at_ : Nat) : Prop where
  ex : ∃ R c, Box w br 32 [.slice R out.length c] ∧ w.ownsRow base 3 1 (.slice R out.length c) out.length (out.map (Value.int .i64)) ∧ (Value.slice R out.length c).ownBlock ≠ some ba ∧ (Value.slice R out.length c).ownBlock ≠ some br
  bx : Box w ba 3 [.int .i64 at_]
  hbr : base ≤ br
  hba : base ≤ ba
  hne : br ≠ ba
theorem TiSt.below {base br ba : Nat} {w w' : World} {out : List Int} {at_ : Nat} (h : TiSt base br ba w out at_) (hb : Below w.heap.size w w') : TiSt base br ba w' out at_ := by
  obtain ⟨⟨R, c, h1, h2, h3, h4⟩, h5, h6, h7, h8⟩ := h
  exact ⟨⟨R, c, h1.below hb h1.lt, own_keep h2 hb, h3, h4⟩, h5.below hb h5.lt, h6, h7, h8⟩
theorem own_type {w : World} {base : Nat} {e : TypeId} {size n : Nat} {v : Value} {xs : List Value} (h : w.ownsRow base e size v n xs) {b : Nat} {t : TypeId} {cs : List Value} (hB : Box w b t cs) (ht : t ≠ e) : some b ≠ v.ownBlock := by
  rcases h.2 with ⟨rfl, rfl⟩ | ⟨g, cap, cur, rfl, _, hg, _⟩
  · simp [Value.ownBlock]
  · intro hb
    simp only [Value.ownBlock, Option.some.injEq] at hb
    unfold Box at hB
    rw [hb, hg] at hB
    injection hB with hB
    injection hB with _ h2
    exact ht h2.symm
theorem box_type {w : World} {b b' : Nat} {t t' : TypeId} {cs cs' : List Value} (h : Box w b t cs) (h' : Box w b' t' cs') (ht : t ≠ t') : b ≠ b' := by
  rintro rfl
  unfold Box at h h'
  rw [h] at h'
  injection h' with h'
  injection h' with _ h2
  exact ht h2
/-- the blocks that hold something else than ints are kept, but one -/
def KeepT (br : Nat) (w w' : World) : Prop := ∀ b t cs, Box w b t cs → t ≠ 3 → b ≠ br → Box w' b t cs
def RetTo (base br ba : Nat) (out : List Int) (at_ : Nat) (w : World) (e : Ending) (w' : World) : Prop := e = .returned (.tuple #[]) ∧ TiSt base br ba w' out at_ ∧ KeepT br w w' ∧ Below base w w'
theorem below_set {B : Nat} {a w : World} (h : Below B a w) {p : Addr} (hp : B ≤ p.block) (u : Value) : Below B a (w.setCell p u) := h.setCell hp u

set_option maxRecDepth 100000 in
set_option maxHeartbeats 6400000 in
theorem to_any (base br ba M b : Nat) (F : Nat → List Int) (lo hi : Nat) (out : List Int) (w : World) (hT : TiSt base br ba w out lo)
    (hF : ∀ i W, lo ≤ i → i < hi → Below base w W → Calls Try.prog M #[.pointer (some ⟨b, 0, none⟩), .int .i64 i] W (RetIs (F i) W)) (hl : ∀ i, lo ≤ i → i < hi → (F i).length ≤ 64) (hz : hi ≤ 1048576) (hz2 : lo ≤ 1048576) (hM : ∀ (args : Array Value) (W : World), (callFunc M args).run Try.prog W = .ok (.enter M args) W) (ho : out.length ≤ 67108864) :
    Calls Try.prog 54 #[.int .i64 hi, .func (.func M) #[.pointer (some ⟨b, 0, none⟩)] #[], .pointer (some ⟨br, 0, none⟩), .pointer (some ⟨ba, 0, none⟩)] w (RetTo base br ba (out ++ joinI F lo hi) hi w) := by
  have hbw : base ≤ w.heap.size := Nat.le_trans hT.hbr (Nat.le_of_lt (by obtain ⟨R, c, h1, _⟩ := hT.ex; exact h1.lt))
  have JC := Lib.hid (fun W (hb : Below w.heap.size w W) => joined_any M b F lo hi W (fun i W' h1 h2 h3 => hF i W' h1 h2 ((hb.mono hbw).trans (h3.mono (Nat.le_trans hbw hb.size)))) hl hz hz2 hM)
  have hjl := joinI_len (f := F) (lo := lo) (hi := hi) (k := 64) hl
  have hj2 : 64 * (hi - lo) ≤ 64 * 1048576 := Nat.mul_le_mul_left _ (by omega)
  generalize joinI F lo hi = J at *
  obtain ⟨⟨R, c, hbx, hown, hna, hnr⟩, hbax, hbr, hba, hne⟩ := hT
  have HO := Lib.hid hown
  have HBX := Lib.hid hbx
  have HBA := Lib.hid hbax
  have HNA := Lib.hid hna
  have HNR := Lib.hid hnr
  clear hF hl hown hbx hbax hM hna hnr
  go_enter Try.func54, Try.ntmps54
  go_wp2_with fail
  refine wp_region_held_drew (S := fun W' => W'.cell? ⟨ba, 0, none⟩ = some (.int .i64 lo)) (by kernel_rfl) (HBA.out.drew.cell (i := 0) rfl) (fun hHeld => ?_)
  refine anyH_take (i := 1) (v := ?_) (some 7) rfl rfl (by kernel_rfl) (by kernel_rfl) (by kernel_rfl) (fun _ _ _ h => h) (by rfl) (by assumption) ?_ ?_
  rotate_left
  · intro w hSw; (try dsimp only at hSw); go_split_ands; go_simp; try (with_reducible rfl)
  try simp only [Act.put, List.setIfInBounds_toArray, List.set_cons_zero, List.set_cons_succ]
  refine anyH_take (i := 2) (v := ?_) (some 8) rfl rfl (by kernel_rfl) (by kernel_rfl) (by kernel_rfl) (fun _ _ _ h => h) (by rfl) (by assumption) ?_ ?_
  rotate_left
  · intro w hSw; (try dsimp only at hSw); go_split_ands; go_simp; try (with_reducible rfl)
  try simp only [Act.put, List.setIfInBounds_toArray, List.set_cons_zero, List.set_cons_succ]
  refine anyH_take (i := 3) (v := ?_) (some 9) rfl rfl (by kernel_rfl) (by kernel_rfl) (by kernel_rfl) (fun _ _ _ h => h) (by rfl) (by assumption) ?_ ?_
  rotate_left
  · intro w hSw; (try dsimp only at hSw); go_split_ands; go_simp; try (with_reducible rfl)
  try simp only [Act.put, List.setIfInBounds_toArray, List.set_cons_zero, List.set_cons_succ]
  have JC1 := Lib.hid ((JC.out w.drew (Below.refl _ _).drew).mono (R' := fun e W' => ∃ v, e = .returned v ∧ W'.cell? ⟨ba, 0, none⟩ = some (.int .i64 lo) ∧ (∃ E d, v = .slice E J.length d ∧ Ints W' E J ∧ Below w.heap.size w W')) (fun e W' hR => by
    obtain ⟨E, d, he, _, h2, h3⟩ := hR.is
    have hb : Below w.heap.size w W' := Below.trans (Below.refl _ _).drew h3
    exact ⟨_, he, (HBA.out.below hb HBA.out.lt).cell (i := 0) rfl, E, d, rfl, h2, hb⟩))
  have kbr : w.cell? ⟨br, 0, none⟩ = some (.slice R out.length c) := HBX.out.cell (i := 0) rfl
  clear JC
  refine wpAnyH_ready (rs := [0, 4]) (by kernel_rfl) (by simp) ?_
  refine AllReadyH.cons rfl (fun K hK => ?_) (AllReadyH.cons rfl (fun K hK => ?_) AllReadyH.nil)
  · refine step_val2 (w' := w.drew) (v := .slice R out.length c) (some 6) rfl hK (by rfl) (by go_simp) hHeld (fun _ => ?_)
    clear hK K
    try simp only [Act.put, List.setIfInBounds_toArray, List.set_cons_zero, List.set_cons_succ]
    refine anyH_callE (i := 4) (some 10) rfl rfl (by kernel_rfl) (by rfl) (by go_simp) JC1.out ?_
    rintro _ W1 hS1 ⟨E, d, rfl, hIE, hb1⟩
    clear hHeld kbr
    have hHeld := hS1
    clear hS1
    try simp only [Act.put, List.setIfInBounds_toArray, List.set_cons_zero, List.set_cons_succ]
    have hown1 := own_keep HO.out hb1
    have X1 := HBX.out.below hb1 HBX.out.lt
    have Y1 := HBA.out.below hb1 HBA.out.lt
    refine anyH_app (i := 5) (some 11) rfl rfl (by kernel_rfl) (by rfl) _ _ 32 3 (.int .i64 0) 1 8 rfl Try.underlying32 info_int rfl (by decide) (by decide) rfl hown1 rfl hIE (by simp) (oneCell_ints _) (by omega) (Nat.le_trans hbw hb1.size) ?_
    intro B k W2 hown2 hk2 hb2 hg2 hB2
    have X2 := X1.grown hg2 (fun e => HNR.out e.symm)
    have Y2 := Y1.grown hg2 (fun e => HNA.out e.symm)
    have NB : ∀ q, q < W1.heap.size → (Value.slice R out.length c).ownBlock ≠ some q → (Value.slice B (out.length + J.length) k).ownBlock ≠ some q := fun q hq hn => by
      rcases hB2 with rfl | rfl
      · cases B with
        | none => simp [Value.ownBlock]
        | some g => simpa [Value.ownBlock] using hn
      · simp [Value.ownBlock]; omega
    have KT2 : KeepT br w W2 := fun q t cs hq ht _ => (hq.below hb1 hq.lt).grown hg2 (own_type hown1 (hq.below hb1 hq.lt) ht)
    have HN1 := Lib.hid (NB br X1.lt HNR.out)
    have HN2 := Lib.hid (NB ba Y1.lt HNA.out)
    refine ⟨Y2.cell (i := 0) rfl, ?_⟩
    clear hHeld
    have hHeld := Y2.cell (i := 0) rfl
    try simp only [Act.put, List.setIfInBounds_toArray, List.set_cons_zero, List.set_cons_succ]
    have g0 := X2.cell (i := 0) rfl
    have g1 := X2.free 0
    have gr := grown_set W2 ⟨br, 0, none⟩ (.slice B (out.length + J.length) k)
    have X3 := X2.set 0 (.slice B (out.length + J.length) k)
    have Y3 := Y2.grown gr (fun e => hne (by injection e with e; exact e.symm))
    have KT3 : KeepT br w (W2.setCell ⟨br, 0, none⟩ (.slice B (out.length + J.length) k)) := fun q t cs hq ht hr => (KT2 q t cs hq ht hr).grown gr (fun e => hr (by injection e))
    have O3 := Lib.hid (hown2.kept gr (.inr HN1.out))
    have hb3 := below_set ((hb1.mono hbw).trans hb2) (p := ⟨br, 0, none⟩) hbr (.slice B (out.length + J.length) k)
    refine anyH_unit (w' := W2.setCell ⟨br, 0, none⟩ (.slice B (out.length + J.length) k)) (i := 6) none rfl rfl (by kernel_rfl) (by rfl) (by go_simp) (Y3.cell (i := 0) rfl) ?_
    refine wpAnyH_done (by kernel_rfl) ?_ _
    clear g0 g1 hHeld X2 Y2 X1 Y1 hown1 hown2 gr hIE KT2
    generalize W2.setCell ⟨br, 0, none⟩ (.slice B (out.length + J.length) k) = W3 at *
    have g0 := Y3.cell (i := 0) rfl
    have g1 := Y3.free 0
    have gl := Y3.lt
    have gr := grown_set W3 ⟨ba, 0, none⟩ (.int .i64 hi)
    have X4 := Lib.hid (X3.grown gr (fun e => hne (by injection e)))
    have Y4 := Lib.hid (Y3.set 0 (.int .i64 hi))
    have KT4 := Lib.hid (show KeepT br w (W3.setCell ⟨ba, 0, none⟩ (.int .i64 hi)) from fun q t cs hq ht hr => (KT3 q t cs hq ht hr).grown gr (fun e => box_type (KT3 q t cs hq ht hr) Y3 ht (by injection e)))
    have O4 := Lib.hid (O3.out.kept gr (.inr HN2.out))
    have hb4 := below_set hb3 (p := ⟨ba, 0, none⟩) hba (.int .i64 hi)
    clear X3 Y3 O3 gr hb3 KT3
    go_wp2_with fail
    go_end0
    refine ⟨rfl, ⟨⟨B, k, ?_, ?_, ?_, ?_⟩, Y4.out, hbr, hba, hne⟩, KT4.out, hb4⟩
    · rw [List.length_append]; exact X4.out
    · rw [List.length_append, List.map_append]; exact O4.out
    · rw [List.length_append]; exact HN2.out
    · rw [List.length_append]; exact HN1.out
  · refine step_call2 (some 10) rfl hK (by rfl) (by go_simp) JC1.out ?_
    rintro _ W1 hS1 ⟨E, d, rfl, hIE, hb1⟩
    clear hHeld kbr hK K
    have hHeld := hS1
    clear hS1
    try simp only [Act.put, List.setIfInBounds_toArray, List.set_cons_zero, List.set_cons_succ]
    have kbr : W1.cell? ⟨br, 0, none⟩ = some (.slice R out.length c) := (HBX.out.below hb1 HBX.out.lt).cell (i := 0) rfl
    refine anyH_val (w' := W1) (v := .slice R out.length c) (i := 0) (some 6) rfl rfl (by kernel_rfl) (by rfl) (by go_simp) hHeld ?_
    clear kbr
    try simp only [Act.put, List.setIfInBounds_toArray, List.set_cons_zero, List.set_cons_succ]
    have hown1 := own_keep HO.out hb1
    have X1 := HBX.out.below hb1 HBX.out.lt
    have Y1 := HBA.out.below hb1 HBA.out.lt
    refine anyH_app (i := 5) (some 11) rfl rfl (by kernel_rfl) (by rfl) _ _ 32 3 (.int .i64 0) 1 8 rfl Try.underlying32 info_int rfl (by decide) (by decide) rfl hown1 rfl hIE (by simp) (oneCell_ints _) (by omega) (Nat.le_trans hbw hb1.size) ?_
    intro B k W2 hown2 hk2 hb2 hg2 hB2
    have X2 := X1.grown hg2 (fun e => HNR.out e.symm)
    have Y2 := Y1.grown hg2 (fun e => HNA.out e.symm)
    have NB : ∀ q, q < W1.heap.size → (Value.slice R out.length c).ownBlock ≠ some q → (Value.slice B (out.length + J.length) k).ownBlock ≠ some q := fun q hq hn => by
      rcases hB2 with rfl | rfl
      · cases B with
        | none => simp [Value.ownBlock]
        | some g => simpa [Value.ownBlock] using hn
      · simp [Value.ownBlock]; omega
    have KT2 : KeepT br w W2 := fun q t cs hq ht _ => (hq.below hb1 hq.lt).grown hg2 (own_type hown1 (hq.below hb1 hq.lt) ht)
    have HN1 := Lib.hid (NB br X1.lt HNR.out)
    have HN2 := Lib.hid (NB ba Y1.lt HNA.out)
    refine ⟨Y2.cell (i := 0) rfl, ?_⟩
    clear hHeld
    have hHeld := Y2.cell (i := 0) rfl
    try simp only [Act.put, List.setIfInBounds_toArray, List.set_cons_zero, List.set_cons_succ]
    have g0 := X2.cell (i := 0) rfl
    have g1 := X2.free 0
    have gr := grown_set W2 ⟨br, 0, none⟩ (.slice B (out.length + J.length) k)
    have X3 := X2.set 0 (.slice B (out.length + J.length) k)
    have Y3 := Y2.grown gr (fun e => hne (by injection e with e; exact e.symm))
    have KT3 : KeepT br w (W2.setCell ⟨br, 0, none⟩ (.slice B (out.length + J.length) k)) := fun q t cs hq ht hr => (KT2 q t cs hq ht hr).grown gr (fun e => hr (by injection e))
    have O3 := Lib.hid (hown2.kept gr (.inr HN1.out))
    have hb3 := below_set ((hb1.mono hbw).trans hb2) (p := ⟨br, 0, none⟩) hbr (.slice B (out.length + J.length) k)
    refine anyH_unit (w' := W2.setCell ⟨br, 0, none⟩ (.slice B (out.length + J.length) k)) (i := 6) none rfl rfl (by kernel_rfl) (by rfl) (by go_simp) (Y3.cell (i := 0) rfl) ?_
    refine wpAnyH_done (by kernel_rfl) ?_ _
    clear g0 g1 hHeld X2 Y2 X1 Y1 hown1 hown2 gr hIE KT2
    generalize W2.setCell ⟨br, 0, none⟩ (.slice B (out.length + J.length) k) = W3 at *
    have g0 := Y3.cell (i := 0) rfl
    have g1 := Y3.free 0
    have gl := Y3.lt
    have gr := grown_set W3 ⟨ba, 0, none⟩ (.int .i64 hi)
    have X4 := Lib.hid (X3.grown gr (fun e => hne (by injection e)))
    have Y4 := Lib.hid (Y3.set 0 (.int .i64 hi))
    have KT4 := Lib.hid (show KeepT br w (W3.setCell ⟨ba, 0, none⟩ (.int .i64 hi)) from fun q t cs hq ht hr => (KT3 q t cs hq ht hr).grown gr (fun e => box_type (KT3 q t cs hq ht hr) Y3 ht (by injection e)))
    have O4 := Lib.hid (O3.out.kept gr (.inr HN2.out))
    have hb4 := below_set hb3 (p := ⟨ba, 0, none⟩) hba (.int .i64 hi)
    clear X3 Y3 O3 gr hb3 KT3
    go_wp2_with fail
    go_end0
    refine ⟨rfl, ⟨⟨B, k, ?_, ?_, ?_, ?_⟩, Y4.out, hbr, hba, hne⟩, KT4.out, hb4⟩
    · rw [List.length_append]; exact X4.out
    · rw [List.length_append, List.map_append]; exact O4.out
    · rw [List.length_append]; exact HN2.out
    · rw [List.length_append]; exact HN1.out

end Go.Proofs.Ytpamkbbmbeeheaa
