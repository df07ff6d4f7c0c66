/- Words for memory: a slice value whose cells are known, nil and empty ones included; how such a fact is kept. No program in sight. -/
import Derived.WalkKit
import Derived.WalkLawsBesides
import Derived.Lib.Hide
import Derived.Laws.StructEq
import Derived.Maps.AppendAt
namespace Go.Proofs.Ytpamkbbmbeeheaa
open Go.RowKit

/-- The slice at A holds the cells cs (from its first cell on); nothing is said where cs is empty. -/
def Sl (w : World) (A : Option Addr) (cs : List Value) : Prop :=
  cs ≠ [] → ∃ b o, A = some ⟨b, o, none⟩ ∧ ∀ j u, cs[j]? = some u → w.cell? ⟨b, o + j, none⟩ = some u

theorem Sl.nil (w : World) (A : Option Addr) : Sl w A [] := fun h => absurd rfl h

theorem Sl.at {w : World} {A : Option Addr} {cs : List Value} (h : Sl w A cs) {k : Nat} (hk : k < cs.length) :
    ∃ b o, A = some ⟨b, o, none⟩ ∧ ∀ j u, cs[j]? = some u → w.cell? ⟨b, o + j, none⟩ = some u :=
  h (by rintro rfl; simp at hk)

theorem Sl.keep {w w' : World} {A : Option Addr} {cs : List Value} (h : Sl w A cs) (hb : ∀ p : Addr, p.block < w.heap.size → w'.cell? p = w.cell? p) : Sl w' A cs := by
  intro hne
  obtain ⟨b, o, rfl, hc⟩ := h hne
  refine ⟨b, o, rfl, fun j u hu => ?_⟩
  have h1 := hc j u hu
  rw [hb _ (World.block_lt_of_cell? w _ h1)]
  exact h1

theorem Sl.below {w w' : World} {A : Option Addr} {cs : List Value} (h : Sl w A cs) (hb : Below w.heap.size w w') : Sl w' A cs := h.keep fun _ hp => hb.cell hp
theorem Sl.drewN {w : World} {A : Option Addr} {cs : List Value} (h : Sl w A cs) (n : Nat) : Sl (w.drewN n) A cs := h
theorem Sl.drew {w : World} {A : Option Addr} {cs : List Value} (h : Sl w A cs) : Sl w.drew A cs := h
theorem Sl.alloc {w : World} {A : Option Addr} {cs : List Value} (h : Sl w A cs) (o : Obj) : Sl (w.alloc o) A cs := h.below ((Below.refl _ _).alloc (Nat.le_refl _) _)

theorem Sl.of_own {w : World} {base : Nat} {e : TypeId} {size n c : Nat} {A : Option Addr} {xs : List Value} (h : w.ownsRow base e size (.slice A n c) n xs) : Sl w A xs := by
  intro hne
  rcases h.2 with ⟨hv, rfl⟩ | ⟨g, cap, cur, hv, _⟩
  · have := h.1; simp at this; exact absurd this hne
  · injection hv with hA; subst hA
    refine ⟨g, 0, rfl, fun j u hu => ?_⟩
    have := h.cells (g := g) rfl j u hu
    unfold Addr.add at this
    split at this <;> simp_all

/-- A slice of ints. -/
def Ints (w : World) (A : Option Addr) (zs : List Int) : Prop := Sl w A (zs.map (Value.int .i64))

theorem Ints.at {w : World} {A : Option Addr} {zs : List Int} (h : Ints w A zs) {k : Nat} (hk : k < zs.length) :
    ∃ b o, A = some ⟨b, o, none⟩ ∧ ∀ j, (hj : j < zs.length) → w.cell? ⟨b, o + j, none⟩ = some (.int .i64 zs[j]) := by
  obtain ⟨b, o, hA, hc⟩ := Sl.at h (k := k) (by simpa using hk)
  exact ⟨b, o, hA, fun j hj => hc j _ (by simp [hj])⟩

theorem Sl.cut {w : World} {b o : Nat} {cs : List Value} (h : Sl w (some ⟨b, o, none⟩) cs) (k : Nat) : Sl w (some ⟨b, o + k, none⟩) (cs.drop k) := by
  intro hne
  have hne' : cs ≠ [] := by rintro rfl; simp at hne
  obtain ⟨b', o', hA, hc⟩ := h hne'
  injection hA with hA
  injection hA with h1 h2
  subst h1; subst h2
  refine ⟨_, _, rfl, fun j u hu => ?_⟩
  rw [Nat.add_assoc]
  exact hc _ u (by rw [← hu, List.getElem?_drop])

theorem Ints.cut {w : World} {b o : Nat} {zs : List Int} (h : Ints w (some ⟨b, o, none⟩) zs) (k : Nat) : Ints w (some ⟨b, o + k, none⟩) (zs.drop k) := by
  unfold Ints
  rw [List.map_drop]
  exact Sl.cut h k

theorem Ints.below {w w' : World} {A : Option Addr} {zs : List Int} (h : Ints w A zs) (hb : Below w.heap.size w w') : Ints w' A zs := Sl.below h hb

theorem Sl_new (w : World) (cs : List Value) (t : TypeId) {B : Nat} (h : B = w.heap.size) : Sl (w.alloc (.cells cs.toArray t)) (some ⟨B, 0, none⟩) cs := by
  subst h
  intro _
  refine ⟨_, _, rfl, fun j u hu => ?_⟩
  rw [World.cell?_alloc_at _ _ _ _ rfl]
  simpa using hu

theorem Ints_new (w : World) (zs : List Int) (t : TypeId) {B : Nat} (h : B = w.heap.size) : Ints (w.alloc (.cells (zs.map (Value.int .i64)).toArray t)) (some ⟨B, 0, none⟩) zs := Sl_new w _ t h

theorem below_of_drewN (w : World) (n : Nat) : Below w.heap.size w (w.drewN n) := ⟨rfl, rfl, rfl, Nat.le_refl _, fun _ _ => rfl⟩

/-- The world is as it was, but for draws. -/
def Qt (w w' : World) : Prop := ∃ q, w' = w.drewN q
theorem Qt.refl (w : World) : Qt w w := ⟨0, rfl⟩
theorem Qt.drewN {w w' : World} (h : Qt w w') (n : Nat) : Qt w (w'.drewN n) := by obtain ⟨q, rfl⟩ := h; exact ⟨q + n, World.drewN_drewN _ _ _⟩
theorem Qt.drew {w w' : World} (h : Qt w w') : Qt w w'.drew := h.drewN 1
theorem Qt.trans {a b c : World} (h : Qt a b) (k : Qt b c) : Qt a c := by obtain ⟨q, rfl⟩ := k; exact h.drewN q
theorem Qt.below {w w' : World} (h : Qt w w') : Below w.heap.size w w' := by obtain ⟨q, rfl⟩ := h; exact below_of_drewN w q

theorem ret_int {k : IntKind} {a b : Int} (h : a = b) : Ending.returned (.int k a) = .returned (.int k b) := by rw [h]
theorem ret_bool {a b : Bool} (h : a = b) : Ending.returned (.bool a) = .returned (.bool b) := by rw [h]

section
variable {P : Program} (w : World)
theorem run_part_int (e : TypeId) (k : IntKind) (hu : P.underlying e = some (.int k)) (xs : Array Value) (j : Nat) (v : Value) (hv : xs[j]? = some v) : (part e xs j).run P w = .ok v w := by
  simp [part, isAgg, run_underlying hu, hv]
theorem run_equalIn_array2 (d : Nat) (t e : TypeId) (k : IntKind) (i : TypeInfo) (ht : P.underlying t = some (.array 2 e)) (he : P.underlying e = some (.int k)) (hi : P.info? e = some i) (hs : i.size = 1) (a b a' b' : Int) :
    (Op.equalIn (d + 2) t (.agg #[.int k a, .int k b]) (.agg #[.int k a', .int k b'])).run P w = .ok (a == a' && b == b') w := by
  have e0 : ∀ W, (Op.equalIn (d + 1) e (.int k a) (.int k a')).run P W = .ok (a == a') W := fun W => run_equalIn_int W d e k k a a' he
  have e1 : ∀ W, (Op.equalIn (d + 1) e (.int k b) (.int k b')).run P W = .ok (b == b') W := fun W => run_equalIn_int W d e k k b b' he
  have p0 := fun (xs : Array Value) (v : Value) => run_part_int (P := P) w e k he xs 0 v
  have p1 := fun (xs : Array Value) (v : Value) => run_part_int (P := P) w e k he xs 1 v
  rw [Op.equalIn]
  simp only [Sem.run_bind, run_underlying ht, Result.andThen_ok, sizeOf, typeInfo, Sem.run_pure]
  simp [Std.Legacy.Range.forIn_eq_forIn_range', List.range', e0, e1, p0, p1, hi, hs]
  by_cases h1 : a = a' <;> by_cases h2 : b = b' <;> simp [h1, h2]
  
theorem run_equalIn_array3 (d : Nat) (t e : TypeId) (k : IntKind) (i : TypeInfo) (ht : P.underlying t = some (.array 3 e)) (he : P.underlying e = some (.int k)) (hi : P.info? e = some i) (hs : i.size = 1) (a b c a' b' c' : Int) :
    (Op.equalIn (d + 2) t (.agg #[.int k a, .int k b, .int k c]) (.agg #[.int k a', .int k b', .int k c'])).run P w = .ok (a == a' && b == b' && c == c') w := by
  have e0 : ∀ W, (Op.equalIn (d + 1) e (.int k a) (.int k a')).run P W = .ok (a == a') W := fun W => run_equalIn_int W d e k k a a' he
  have e1 : ∀ W, (Op.equalIn (d + 1) e (.int k b) (.int k b')).run P W = .ok (b == b') W := fun W => run_equalIn_int W d e k k b b' he
  have e2 : ∀ W, (Op.equalIn (d + 1) e (.int k c) (.int k c')).run P W = .ok (c == c') W := fun W => run_equalIn_int W d e k k c c' he
  have p0 := fun (xs : Array Value) (v : Value) => run_part_int (P := P) w e k he xs 0 v
  have p1 := fun (xs : Array Value) (v : Value) => run_part_int (P := P) w e k he xs 1 v
  have p2 := fun (xs : Array Value) (v : Value) => run_part_int (P := P) w e k he xs 2 v
  rw [Op.equalIn]
  simp only [Sem.run_bind, run_underlying ht, Result.andThen_ok, sizeOf, typeInfo, Sem.run_pure]
  simp [Std.Legacy.Range.forIn_eq_forIn_range', List.range', e0, e1, e2, p0, p1, p2, hi, hs]
  by_cases h1 : a = a' <;> by_cases h2 : b = b' <;> by_cases h3 : c = c' <;> simp [h1, h2, h3]
end

/-- lexicographic comparison -/
def cmpL : List Int → List Int → Int
  | [], [] => 0
  | [], _ :: _ => -1
  | _ :: _, [] => 1
  | a :: as, b :: bs => if a < b then -1 else if b < a then 1 else cmpL as bs

theorem cmpL_eq_zero (xs ys : List Int) : cmpL xs ys = 0 ↔ xs = ys := by
  induction xs generalizing ys with
  | nil => cases ys <;> simp [cmpL]
  | cons a as ih =>
    cases ys with
    | nil => simp [cmpL]
    | cons b bs =>
      simp only [cmpL]
      split
      · constructor
        · intro h; omega
        · intro h; injection h; omega
      · split
        · constructor
          · intro h; omega
          · intro h; injection h; omega
        · rw [ih]
          constructor
          · rintro rfl; congr 1; omega
          · intro h; injection h

theorem cmpL_drop (xs ys : List Int) (k : Nat) (h1 : k < xs.length) (h2 : k < ys.length) :
    cmpL (xs.drop k) (ys.drop k) = if xs[k] < ys[k] then -1 else if ys[k] < xs[k] then 1 else cmpL (xs.drop (k + 1)) (ys.drop (k + 1)) := by
  rw [List.drop_eq_getElem_cons h1, List.drop_eq_getElem_cons h2, cmpL]

theorem cmpL_end (xs ys : List Int) (k : Nat) (h : k = xs.length ∨ k = ys.length) (h1 : k ≤ xs.length) (h2 : k ≤ ys.length) :
    cmpL (xs.drop k) (ys.drop k) = if xs.length < ys.length then -1 else if ys.length < xs.length then 1 else 0 := by
  by_cases e1 : k = xs.length
  · have : xs.drop k = [] := by simp [e1]
    rw [this]
    by_cases e2 : k = ys.length
    · have : ys.drop k = [] := by simp [e2]
      rw [this, if_neg (by omega), if_neg (by omega)]; rfl
    · rw [List.drop_eq_getElem_cons (show k < ys.length by omega), if_pos (by omega)]; rfl
  · have e2 : k = ys.length := by omega
    have : ys.drop k = [] := by simp [e2]
    rw [this, List.drop_eq_getElem_cons (show k < xs.length by omega), if_neg (by omega), if_pos (by omega)]; rfl

section
variable {P : Program} {w : World}
/-- an owned row read as a slice value -/
theorem own_form {base : Nat} {e : TypeId} {size n : Nat} {v : Value} {xs : List Value} (h : w.ownsRow base e size v n xs) : ∃ A c, v = .slice A n c ∧ n ≤ c := by
  rcases h.2 with ⟨rfl, rfl⟩ | ⟨g, cap, cur, rfl, _, _, hn, _⟩
  · exact ⟨_, _, rfl, Nat.le_refl _⟩
  · exact ⟨_, _, rfl, hn⟩

theorem own_below {base : Nat} {e : TypeId} {size n : Nat} {v : Value} {xs : List Value} {w' : World} (h : w.ownsRow base e size v n xs) (hg : w.grownBy w' v.ownBlock) (hb : base ≤ w.heap.size) : Below base w w' :=
  (Below.refl _ _).grown hg hb fun k hk => (h.lt k hk).1

theorem own_keep {base : Nat} {e : TypeId} {size n : Nat} {v : Value} {xs : List Value} {w' : World} (h : w.ownsRow base e size v n xs) (hb : Below w.heap.size w w') : w'.ownsRow base e size v n xs :=
  h.kept (row := none) ⟨hb.os, hb.tape, hb.output, hb.size, fun k hk _ => hb.block k hk⟩ (by cases hv : v.ownBlock <;> simp)

theorem own_new (cs : List Value) (e : TypeId) (size n base : Nat) {B : Nat} (hB : B = w.heap.size) (hl : cs.length = n * size) (hb : base ≤ w.heap.size) (hm : n ≤ 9223372036854775807) :
    (w.alloc (.cells cs.toArray e)).ownsRow base e size (.slice (some ⟨B, 0, none⟩) n n) n cs := by
  subst hB
  refine ⟨hl, .inr ⟨w.heap.size, n, cs.toArray, rfl, hb, heap_alloc_new w _, Nat.le_refl _, by unfold maxLen; omega, by simpa using hl, ?_⟩⟩
  simp [← hl]

theorem run_app (t ty e : TypeId) (z : Value) (size bytes : Nat) (ht : P.underlying t = some (.slice e))
    (hinfo : (P.info? e).map (fun i => (i.zero, i.size, i.bytes)) = some (some z, size, bytes)) (hzs : z.cells.size = size) (hsz : 0 < size) (hby : 0 < bytes)
    {base : Nat} {A : Option Addr} {n c : Nat} {xs : List Value} (hown : w.ownsRow base e size (.slice A n c) n xs)
    {A' : Option Addr} {m c' : Nat} {news : List Value} (hr : Sl w A' news) (hl : news.length = m * size) (h1 : ∀ u ∈ news, u.oneCell' = true)
    (hlim : (n + m) * bytes ≤ 140737488355328) (hbase : base ≤ w.heap.size) :
    ∃ B k w', (Builtin.append_ #[t, t] ty #[.slice A n c, .slice A' m c']).run P w = .ok (.slice B (n + m) k) w' ∧ w'.ownsRow base e size (.slice B (n + m) k) (n + m) (xs ++ news) ∧ n + m ≤ k ∧
      Below base w w' ∧ w.grownBy w' (Value.ownBlock (.slice A n c)) ∧ (B = A ∨ B = some ⟨w.heap.size, 0, none⟩) := by
  obtain ⟨i, hi, hz, hsize, hbytes⟩ := info_parts hinfo
  have h63 : n + m ≤ maxLen := by
    have : (n + m) * 1 ≤ (n + m) * bytes := Nat.mul_le_mul_left _ hby
    unfold maxLen; omega
  rcases Nat.eq_zero_or_pos m with hm | hm
  · subst hm
    have hn : news = [] := List.eq_nil_of_length_eq_zero (by simpa using hl)
    subst hn
    obtain ⟨_, _, hv, hnc⟩ := own_form hown
    injection hv with _ _ hc
    subst hc
    refine ⟨A, c, w, ?_, by simpa using hown, hnc, Below.refl _ _, ⟨rfl, rfl, rfl, Nat.le_refl _, fun _ _ _ => rfl⟩, .inl rfl⟩
    rcases hown.2 with ⟨hv, _⟩ | ⟨g, cap, cur, hv, _, _, _⟩
    · injection hv with hA hn hc
      subst hA; subst hn; subst hc
      cases A' <;> simp [Builtin.append_, run_underlying ht, sizeOf, typeInfo, hi, Builtin.lenOf, Builtin.firstCells, loadCells, loadCellsFrom]
    · injection hv with hA hn hc
      subst hA; subst hc
      cases A' <;> simp [Builtin.append_, run_underlying ht, sizeOf, typeInfo, hi, Builtin.lenOf, Builtin.firstCells, loadCells, loadCellsFrom, hnc, storeCells]
  · have hne : news ≠ [] := by rintro rfl; rw [List.length_nil] at hl; have := Nat.mul_pos hm hsz; omega
    obtain ⟨b, o, rfl, hc⟩ := hr hne
    have hnews : ∀ j u, news[j]? = some u → w.cell? ((⟨b, o, none⟩ : Addr).add j) = some u := by
      intro j u hu
      have := hc j u hu
      unfold Addr.add
      split
      · next h => subst h; simpa using this
      · exact this
    obtain ⟨v', w', hrun, h2, h3, _, h5⟩ := run_append_own_at (P := P) w base t ty e i z size bytes ht hi hz hsize hbytes hzs hsz _ n xs hown ⟨b, o, none⟩ m c' news hl hnews h1 h63 hlim hbase
    obtain ⟨B, k, rfl, hk⟩ := own_form h2
    refine ⟨B, k, w', hrun, h2, hk, own_below hown h3 hbase, h3, ?_⟩
    obtain ⟨g, cap, hv, _⟩ := (show ∃ g cap, (Value.slice B (n + m) k) = .slice (some ⟨g, 0, none⟩) (n + m) cap ∧ True by
      rcases h2.2 with ⟨_, h0⟩ | ⟨g, cap, cur, hv, _⟩
      · omega
      · exact ⟨g, cap, hv, trivial⟩)
    injection hv with hB
    subst hB
    rcases h5 with h5 | h5
    · left
      rcases hown.2 with ⟨hv, _⟩ | ⟨g', cap', cur', hv, _⟩
      · injection hv with hA; subst hA; simp [Value.ownBlock] at h5
      · injection hv with hA; subst hA; simp [Value.ownBlock] at h5; rw [h5]
    · right; simp [Value.ownBlock] at h5; rw [h5]

theorem wpList_app {ops : Array Oper} {rest : List Oper} {o : Oper} {a : Act} {Q : Exit → Act → World → Prop} (s x : Operand) (t e : TypeId) (z : Value) (size bytes : Nat)
    (hgd : o.guard = none) (ho : o.op = .call { callee := .builtin .append, args := #[s, x], argTypes := #[t, t] }) (ht : P.underlying t = some (.slice e))
    (hinfo : (P.info? e).map (fun i => (i.zero, i.size, i.bytes)) = some (some z, size, bytes)) (hzs : z.cells.size = size) (hsz : 0 < size) (hby : 0 < bytes)
    {base : Nat} {A : Option Addr} {n c : Nat} {xs : List Value} (hs : a.eval s = .slice A n c) (hown : w.ownsRow base e size (.slice A n c) n xs)
    {A' : Option Addr} {m c' : Nat} {news : List Value} (hx : a.eval x = .slice A' m c') (hr : Sl w A' news) (hl : news.length = m * size) (h1 : ∀ u ∈ news, u.oneCell' = true)
    (hlim : (n + m) * bytes ≤ 140737488355328) (hbase : base ≤ w.heap.size)
    (h : ∀ B k w', w'.ownsRow base e size (.slice B (n + m) k) (n + m) (xs ++ news) → n + m ≤ k → Below base w w' → w.grownBy w' (Value.ownBlock (.slice A n c)) → (B = A ∨ B = some ⟨w.heap.size, 0, none⟩) →
      wpList P ops Q rest (a.put o.dst (.slice B (n + m) k)) w') : wpList P ops Q (o :: rest) a w := by
  refine wpList_plain hgd fun K hK => ?_
  obtain ⟨B, k, w', hrun, h2, h3, h4, h5, h6⟩ := run_app (P := P) t o.type e z size bytes ht hinfo hzs hsz hby hown (c' := c') hr hl h1 hlim hbase
  unfold Oper.wp execOp
  simp only [ho, resolve, invoke, builtin, Sem.run_bind, Sem.run_pure, Result.andThen_ok, List.map_toArray, List.map_cons, List.map_nil, hs, hx, hrun]
  exact hK _ _ (h B k w' h2 h3 h4 h5 h6)
end

theorem oneCell_ints (zs : List Int) : ∀ u ∈ zs.map (Value.int .i64), u.oneCell' = true := by
  intro u hu
  obtain ⟨z, _, rfl⟩ := List.mem_map.1 hu
  rfl

end Go.Proofs.Ytpamkbbmbeeheaa
