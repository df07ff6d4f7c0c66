/- The table of a collation: its keys, and what it gives for a list of codes. -/
import Derived.Test.YtnfnoefjgiojoaaKey
import Derived.Test.YtnfnoefjgiojoaaHeldSkip
import Derived.WideKeyArr
namespace Go.Proofs.Ytnfnoefjgiojoaa
open Go.RowKit Go.Maps Go.WideMaps

theorem key_arr : ArrKey Try.prog 96 3 9 := ⟨Try.underlying96, by kernel_rfl, by kernel_rfl, by kernel_rfl⟩
theorem law_key : Keyed Try.prog 96 := Keyed.of_law key_arr.law

noncomputable def klit (zs : List Int) : Lit := (keyOf Try.prog 96 (keyV zs)).getD (.bool false)
/-- codes that may be looked up -/
def kok (zs : List Int) : Prop := zs.length ≤ 8 ∧ ∀ z ∈ zs, (Lit.int .i64 z).wf = true
theorem nine {α : Type} (l : List α) (h : l.length = 9) : ∃ a b c d e f g i j, l = [a, b, c, d, e, f, g, i, j] := by
  match l, h with
  | [a, b, c, d, e, f, g, i, j], _ => exact ⟨a, b, c, d, e, f, g, i, j, rfl⟩
theorem key9 (l : List Int) (h : l.length = 9) (hw : ∀ z ∈ l, (Lit.int .i64 z).wf = true) : (keyOf Try.prog 96 (.agg (l.map (Value.int .i64)).toArray)).isSome = true := by
  obtain ⟨z0, z1, z2, z3, z4, z5, z6, z7, z8, rfl⟩ := nine l h
  have w0 := hw z0 (by simp); have w1 := hw z1 (by simp); have w2 := hw z2 (by simp); have w3 := hw z3 (by simp); have w4 := hw z4 (by simp)
  have w5 := hw z5 (by simp); have w6 := hw z6 (by simp); have w7 := hw z7 (by simp); have w8 := hw z8 (by simp)
  have hk : Try.prog.keyType 96 = true := by kernel_rfl
  have hu := Try.underlying96
  have hi := Try.underlying3
  have hc9 : Try.prog.cellsOf 96 = 9 := by kernel_rfl
  have hc1 : Try.prog.cellsOf 3 = 1 := by kernel_rfl
  obtain ⟨m, hm⟩ : ∃ m, Try.prog.types.size = m + 1 := ⟨Try.prog.types.size - 1, by kernel_rfl⟩
  unfold keyOf
  rw [hu]
  simp only [hk, hm, Value.formed, hu, hc9]
  unfold Program.keyLits
  rw [hu]
  simp only [hc9, hc1]
  simp [Program.keyLits, hi, w0, w1, w2, w3, w4, w5, w6, w7, w8, List.range, List.range.loop, Value.cells]

theorem keyL_len {zs : List Int} (h : zs.length ≤ 8) : (keyL zs).length = 9 := by simp [keyL]; omega
theorem wf_small {z : Int} (h1 : -9223372036854775808 ≤ z) (h2 : z ≤ 9223372036854775807) : (Lit.int .i64 z).wf = true := by
  simp only [Lit.wf, Bool.and_eq_true, decide_eq_true_eq]
  exact ⟨h1, h2⟩
theorem key_some {zs : List Int} (h : kok zs) : keyOf Try.prog 96 (keyV zs) = some (klit zs) := by
  have h9 := key9 (keyL zs) (keyL_len h.1) (fun z hz => by
    simp only [keyL, List.mem_cons, List.mem_append, List.mem_replicate] at hz
    rcases hz with rfl | hz | ⟨_, rfl⟩
    · have := h.1; exact wf_small (by omega) (by omega)
    · exact h.2 z hz
    · exact wf_small (by omega) (by omega))
  unfold klit
  have e : keyV zs = .agg ((keyL zs).map (Value.int .i64)).toArray := rfl
  rw [e]
  cases hk : keyOf Try.prog 96 (.agg ((keyL zs).map (Value.int .i64)).toArray) with
  | none => rw [hk] at h9; cases h9
  | some x => rfl
theorem keyV_inj {xs ys : List Int} (h : keyV xs = keyV ys) : xs = ys := by
  have h1 : (keyL xs).map (Value.int .i64) = (keyL ys).map (Value.int .i64) := by
    injection h with h
    exact congrArg Array.toList h
  have h2 : keyL xs = keyL ys := (List.map_inj_right (fun a b e => by injection e)).1 h1
  unfold keyL at h2
  injection h2 with h3 h4
  exact (List.append_inj h4 (by omega)).1
theorem klit_inj {xs ys : List Int} (hx : kok xs) (hy : kok ys) (h : klit xs = klit ys) : xs = ys := by
  refine keyV_inj ?_
  have a := key_some hx
  have b := key_some hy
  rw [h] at a
  exact law_key.inj a b

/-- the elements of the last entry with these codes -/
def lastE (es : List Ent) (zs : List Int) : Option (List Elt) := es.foldl (fun r x => if x.codes = zs then some x.elems else r) none
theorem lastE_snoc (l : List Ent) (x : Ent) (zs : List Int) : lastE (l ++ [x]) zs = if x.codes = zs then some x.elems else lastE l zs := by simp [lastE, List.foldl_append]
theorem lastE_take {es : List Ent} {i : Nat} (hi : i < es.length) (zs : List Int) : lastE (es.take (i + 1)) zs = if es[i].codes = zs then some es[i].elems else lastE (es.take i) zs := by
  rw [List.take_succ_eq_append_getElem hi, lastE_snoc]
/-- the greatest number of codes -/
def longE (es : List Ent) : Int := es.foldl (fun r x => max r (x.codes.length : Int)) 0
theorem longE_take {es : List Ent} {i : Nat} (hi : i < es.length) : longE (es.take (i + 1)) = max (longE (es.take i)) (es[i].codes.length : Int) := by
  rw [List.take_succ_eq_append_getElem hi]; unfold longE; rw [List.foldl_append]; rfl
theorem longE_bd {es : List Ent} {k : Nat} (h : ∀ x ∈ es, x.codes.length ≤ k) : 0 ≤ longE es ∧ longE es ≤ k := by
  unfold longE
  have : ∀ (l : List Ent) (r : Int), (∀ x ∈ l, x.codes.length ≤ k) → 0 ≤ r → r ≤ k → 0 ≤ l.foldl (fun r x => max r (x.codes.length : Int)) r ∧ l.foldl (fun r x => max r (x.codes.length : Int)) r ≤ k := by
    intro l
    induction l with
    | nil => intro r _ h0 h1; exact ⟨h0, h1⟩
    | cons x l ih =>
      intro r hl h0 h1
      have hx := hl x (by simp)
      exact ih _ (fun y hy => hl y (by simp [hy])) (by dsimp only; omega) (by dsimp only; omega)
  exact this es 0 h (by omega) (by omega)
theorem longE_ge {es : List Ent} {x : Ent} (h : x ∈ es) : (x.codes.length : Int) ≤ longE es := by
  unfold longE
  have mono : ∀ (l : List Ent) (r : Int), r ≤ l.foldl (fun r x => max r (x.codes.length : Int)) r := by
    intro l
    induction l with
    | nil => intro r; exact Int.le_refl _
    | cons y l ih => intro r; exact Int.le_trans (by dsimp only; omega) (ih _)
  have : ∀ (l : List Ent) (r : Int), x ∈ l → (x.codes.length : Int) ≤ l.foldl (fun r x => max r (x.codes.length : Int)) r := by
    intro l
    induction l with
    | nil => intro r h; cases h
    | cons y l ih =>
      intro r h
      rcases List.mem_cons.1 h with rfl | h
      · exact Int.le_trans (by dsimp only; omega) (mono l _)
      · exact ih _ h
  exact this es 0 h
theorem lastE_mem {es : List Ent} {zs : List Int} {e : List Elt} (h : lastE es zs = some e) : ∃ x ∈ es, x.codes = zs ∧ x.elems = e := by
  unfold lastE at h
  have : ∀ (l : List Ent) (r : Option (List Elt)), l.foldl (fun r x => if x.codes = zs then some x.elems else r) r = some e → r = some e ∨ ∃ x ∈ l, x.codes = zs ∧ x.elems = e := by
    intro l
    induction l with
    | nil => intro r h; exact .inl h
    | cons y l ih =>
      intro r h
      rcases ih _ h with h1 | ⟨x, hx, h2⟩
      · dsimp only at h1
        split at h1
        · next hy => injection h1 with h1; exact .inr ⟨y, by simp, hy, h1⟩
        · exact .inl h1
      · exact .inr ⟨x, by simp [hx], h2⟩
  rcases this es none h with h | h
  · cases h
  · exact h

/-- f gives, at the codes of each entry, a slice of its elements -/
def TabF (w : World) (f : List Int → Option Value) (es : List Ent) : Prop :=
  ∀ zs, kok zs → match lastE es zs with | none => f zs = none | some e => ∃ E d, f zs = some (.slice E e.length d) ∧ Elts w E e
theorem TabF.nil (w : World) : TabF w (fun _ => none) [] := fun _ _ => rfl
theorem TabF.below {w w' : World} {f : List Int → Option Value} {es : List Ent} (h : TabF w f es) (hb : Below w.heap.size w w') : TabF w' f es := fun zs hz => by
  have := h zs hz
  cases hl : lastE es zs with
  | none => rw [hl] at this; exact this
  | some e =>
    rw [hl] at this
    obtain ⟨E, d, h1, h2⟩ := this
    exact ⟨E, d, h1, h2.below hb⟩
theorem TabF.put {w : World} {f : List Int → Option Value} {es : List Ent} {i : Nat} (h : TabF w f (es.take i)) (hi : i < es.length) {E : Option Addr} {d : Nat} (hE : Elts w E es[i].elems) :
    TabF w (fun y => if y = es[i].codes then some (.slice E es[i].elems.length d) else f y) (es.take (i + 1)) := fun zs hz => by
  rw [lastE_take hi]
  by_cases e : es[i].codes = zs
  · rw [if_pos e]
    dsimp only
    rw [if_pos e.symm]
    exact ⟨E, d, rfl, hE⟩
  · rw [if_neg e]
    dsimp only
    rw [if_neg (fun x => e x.symm)]
    exact h zs hz

/-- block b is the cells cs, none of them frozen -/
def Box (w : World) (b : Nat) (t : TypeId) (cs : List Value) : Prop := w.heap[b]? = some (.cells cs.toArray t (0, 0))
section
variable {w w' : World} {b : Nat} {t : TypeId} {cs : List Value}
theorem Box.lt (h : Box w b t cs) : b < w.heap.size := by
  rcases Nat.lt_or_ge b w.heap.size with g | g
  · exact g
  · unfold Box at h; rw [Array.getElem?_eq_none g] at h; cases h
theorem Box.cell (h : Box w b t cs) {i : Nat} {v : Value} (hv : cs[i]? = some v) : w.cell? ⟨b, i, none⟩ = some v := by
  unfold Box at h
  simp [World.cell?, h, hv]
theorem Box.free (h : Box w b t cs) (i : Nat) : w.frozen? ⟨b, i, none⟩ = false := by
  unfold Box at h
  simp [World.frozen?, h]
theorem Box.new (w : World) (t : TypeId) (cs : List Value) {b : Nat} (hb : b = w.heap.size) : Box (w.alloc (.cells cs.toArray t)) b t cs := by
  subst hb
  show (w.heap.push _)[w.heap.size]? = _
  simp
theorem Box.below {B : Nat} (h : Box w b t cs) (hb : Below B w w') (hg : b < B) : Box w' b t cs := (hb.block b hg).trans h
theorem Box.grown {row : Option Nat} (h : Box w b t cs) (hg : w.grownBy w' row) (hne : some b ≠ row) : Box w' b t cs := (hg.block b h.lt hne).trans h
theorem Box.set (h : Box w b t cs) (i : Nat) (u : Value) : Box (w.setCell ⟨b, i, none⟩ u) b t (cs.set i u) := by
  unfold Box at h ⊢
  simp [World.setCell, Array.getElem?_modify, h]
end

theorem grown_set (w : World) (p : Addr) (u : Value) : w.grownBy (w.setCell p u) (some p.block) :=
  ⟨rfl, rfl, rfl, by simp [World.setCell], fun k _ hne => Below.heap_setCell w p u k (fun e => hne (by rw [e]))⟩
/-- the collation that counts -/
def colD (c : Col) : Col := if colErr c = 0 then c else ⟨[], [], 64448, 32, 2⟩
/-- the cells of a table -/
def tabCells (A : Option Addr) (n a : Nat) (B : Option Addr) (m b : Nat) (c : Col) (M : Nat) (long : Int) (cl : Value) (top : Int) : List Value :=
  [.slice A n a, .slice B m b, .int .i64 c.base, .int .i64 c.second, .int .i64 c.third, .map (some M), .int .i64 long, cl, .int .i64 top]
/-- a table of a collation lies in block T -/
structure TabAt (w : World) (T : Nat) (c : Col) (cl : Value) (top : Int) : Prop where
  ex : ∃ A n a B m b M k f, Box w T 94 (tabCells A n a B m b c M (longE c.ents) cl top) ∧ ColAt w A n B m c ∧ MapIs Try.prog 96 klit kok w M k f ∧ TabF w f c.ents
theorem TabAt.below {w w' : World} {T : Nat} {c : Col} {cl : Value} {top : Int} (h : TabAt w T c cl top) (hb : Below w.heap.size w w') : TabAt w' T c cl top := by
  obtain ⟨A, n, a, B, m, b, M, k, f, h1, h2, h3, h4⟩ := h.ex
  exact ⟨A, n, a, B, m, b, M, k, f, h1.below hb h1.lt, h2.below hb, h3.below hb, h4.below hb⟩
def RetTab (c : Col) (w : World) (e : Ending) (w' : World) : Prop := ∃ T, e = .returned (.pointer (some ⟨T, 0, none⟩)) ∧ w.heap.size ≤ T ∧ TabAt w' T c (.slice none 0 0) 0 ∧ Below w.heap.size w w'

section
variable {P : Program} {ops : Array Oper} {Q : Exit → Act → World → Prop} {md : Region.Mode} {S : World → Prop}
/-- a call after which more is known than S -/
theorem anyH_callR {R : World → Prop} {i : Nat} {oi : Oper} {fuel : Nat} {listed : Array Bool} {a : Act} {w : World} (d : Option Tmp) {f : FuncId} {args : Array Value} {v : Value} (hi : ops[i]? = some oi) (hd : oi.dst = d)
    (hr : Region.ready md ops listed = [i]) (hw : Region.wanted oi (yielded ops a.tmps) = true) (he : (execOp a.eval oi).run P w = .ok (.enter f args) w)
    (hc : Calls P f args w (fun e w' => e = .returned v ∧ S w' ∧ R w'))
    (h : ∀ w', S w' → R w' → wpAnyH P md ops Q S fuel (listed.setIfInBounds i true) (a.put d v) w') : wpAnyH P md ops Q S (fuel + 1) listed a w := by
  subst hd
  refine wpAnyH_ready hr (by simp) (AllReadyH.cons hi (fun K hK => ?_) AllReadyH.nil)
  rw [if_pos hw]
  unfold Oper.wp
  rw [he]
  simp only [Oper.upon]
  refine hc.mono ?_
  rintro e w' ⟨rfl, hS', hR'⟩
  exact hK.out _ _ hS' (fun hh => h w' hh hR')
/-- an operation that is the only one that may come up, run as it is -/
theorem anyH_do {i : Nat} {oi : Oper} {fuel : Nat} {listed : Array Bool} {a : Act} {w : World} (hi : ops[i]? = some oi)
    (hr : Region.ready md ops listed = [i]) (hw : Region.wanted oi (yielded ops a.tmps) = true)
    (h : ∀ K : Act → World → Prop, Shut (∀ a w, S w → (S w → wpAnyH P md ops Q S fuel (listed.setIfInBounds i true) a w) → K a w) → Oper.wp P oi a w K Q) : wpAnyH P md ops Q S (fuel + 1) listed a w := by
  refine wpAnyH_ready hr (by simp) (AllReadyH.cons hi (fun K hK => ?_) AllReadyH.nil)
  rw [if_pos hw]
  exact h K hK
/-- a store into a map -/
theorem anyH_mput {κ : Type} [DecidableEq κ] {k : TypeId} {kl : κ → Lit} {ok : κ → Prop} {b n : Nat} {f : κ → Option Value} {i : Nat} {oi : Oper} {fuel : Nat} {listed : Array Bool} {a : Act} {w : World} (d : Option Tmp) (hi : ops[i]? = some oi) (hd : oi.dst = d)
    (hr : Region.ready md ops listed = [i]) (hw : Region.wanted oi (yielded ops a.tmps) = true) (m y v : Operand) (t : TypeId) (hop : oi.op = Op.mapUpdate t m y v) {e : TypeId} (h : MapIs P k kl ok w b n f) (K : Keyed P k) (ht : P.underlying t = some (.map k e)) (hn : n < maxLen)
    (hm : a.eval m = .map (some b)) {key val : Value} {x : κ} (hy : a.eval y = key) (hv : a.eval v = val) (hx : ok x) (hkey : keyOf P k key = some (kl x)) (hinj : ∀ y, ok y → kl y = kl x → y = x)
    (hS : ∀ w', w.grownBy w' (some b) → S w')
    (hK : ∀ w', MapIs P k kl ok w' b (n + 1) (fun y => if y = x then some val else f y) → w.grownBy w' (some b) → wpAnyH P md ops Q S fuel (listed.setIfInBounds i true) (a.put d undef) w') : wpAnyH P md ops Q S (fuel + 1) listed a w := by
  subst hd
  refine anyH_do hi hr hw (fun K' hK' => ?_)
  obtain ⟨w', hrun, r1, r2⟩ := h.put K ht hn (v := val) hx hkey hinj
  unfold Oper.wp
  simp [execOp, hop, hm, hy, hv, hrun, Result.andThen]
  exact hK'.out _ _ (hS w' r2) (fun _ => hK w' r1 r2)
end

end Go.Proofs.Ytnfnoefjgiojoaa
