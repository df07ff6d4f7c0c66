/- Texts that are merged into one file: ExpA, ExpB. -/
import Derived.Test.YtpfbnikbebccjaaGreatDoorG04
import Derived.Test.YtpfbnikbebccjaaGreatDoorG06
import Derived.Test.YtpfbnikbebccjaaGreatDoorG10
import Derived.Test.YtpfbnikbebccjaaGreatDoorG15
/- The memory of decompose.expander's closure. -/
namespace Go.Proofs.YtpfbnikbebccjaaGreatDoor
open Go.RowKit Go.Maps Go.WideMaps

/-- marks of what has been found -/
def mkF (f : Int → Option Value) : Int → Option Int := fun c => (f c).map (fun _ => 0)
theorem mkF_none {f : Int → Option Value} {c : Int} : mkF f c = none ↔ f c = none := by unfold mkF; cases f c <;> simp
theorem mkF_put (f : Int → Option Value) (c : Int) (v : Value) : mkF (fun y => if y = c then some v else f y) = putM (mkF f) c 0 := by
  funext x
  unfold mkF putM
  by_cases e : x = c
  · simp [e]
  · simp [e]
theorem grown_belowB {a w w' : World} {r : Option Nat} {B : Nat} (h : a.grownBy w r) (g : Below B w w') (hB : a.heap.size ≤ B) : a.grownBy w' r :=
  ⟨g.os.trans h.os, g.tape.trans h.tape, g.output.trans h.output, Nat.le_trans h.size g.size, fun k hk hne => (g.block k (Nat.lt_of_lt_of_le hk hB)).trans (h.block k hk hne)⟩
theorem Sl.grownM {W W' : World} {U : Nat} {A : Option Addr} {cs : List Value} (h : Sl W A cs) (hg : W.grownBy W' (some U)) (hU : ∀ o, W.cell? ⟨U, o, none⟩ = none) : Sl W' A cs := by
  intro hne
  obtain ⟨b, o, rfl, hc⟩ := h hne
  refine ⟨b, o, rfl, fun j u hu => ?_⟩
  have h1 := hc j u hu
  have hq : b ≠ U := fun e => by rw [e, hU] at h1; cases h1
  exact (World.cell?_of_block (hg.block b (World.block_lt_of_cell? W _ h1) (fun e => hq (by injection e)))).trans h1
/-- acyclic: what has a full decomposition is not in what it is replaced by -/
theorem Full.noway {on : Int → Option (List Int)} {c : Int} {l : List Int} (h : Full on c l) : ¬ Path on c c := by
  have key : ∀ {c l}, Full on c l → ∀ d, Path on c d → ¬ Path on d c := by
    intro c l h
    induction h with
    | leaf h =>
      intro d p _
      rcases p.head with ⟨to, h1, _⟩ | ⟨x, ⟨to, h1, _⟩, _⟩
      · rw [h] at h1; cases h1
      · rw [h] at h1; cases h1
    | @node c to vs h1 h2 h3 ih =>
      have step : ∀ x, Edge on c x → ∀ y, Path on x y → ¬ Path on y x := fun x ⟨to', g1, g2⟩ y => by
        rw [h1] at g1
        injection g1 with g1
        subst g1
        obtain ⟨i, hi, rfl⟩ := List.getElem_of_mem g2
        exact ih i hi (by omega) y
      intro d p q
      rcases p.head with e | ⟨x, e, p2⟩
      · have q2 : Path on d d := by
          rcases q.head with e2 | ⟨y, e2, q3⟩
          · exact .more (.one e2) e
          · exact .more q e
        exact step d e d q2 q2
      · have q3 : Path on d x := .more q e
        exact step x e d p2 q3
  intro p
  exact key h c p p

/-- the numbers that may be replaced -/
def uM (ms : List Mp) : List Int := fsM ms ++ (List.range 11172).map (fun i : Nat => 44032 + (i : Int))
theorem uM_len (ms : List Mp) : (uM ms).length = ms.length + 11172 := by unfold uM fsM; simp
theorem onM_uM {ms : List Mp} {b : Bool} {c : Int} {to : List Int} (h : onM ms b c = some to) : c ∈ uM ms := by
  unfold uM
  rw [List.mem_append]
  unfold onM at h
  split at h
  · next h4 =>
    right
    have hr : 44032 ≤ c ∧ c ≤ 55203 := by
      have h5 := (Hg.kind_range c).2
      by_cases h44 : Hg.kind c = 4
      · have := kind_is4 h44; omega
      · have := kind_is5 (show Hg.kind c = 5 by omega); omega
    exact List.mem_map.2 ⟨(c - 44032).toNat, List.mem_range.2 (by omega), by omega⟩
  · left
    cases hf : fndM ms b c with
    | none => rw [hf] at h; cases h
    | some i =>
      obtain ⟨hi, h1, _⟩ := fndM_at hf
      exact List.mem_map.2 ⟨ms[i], List.getElem_mem hi, h1⟩
/-- the memory of the closure that expands: s the first block -/
structure XM (A0 : Option Addr) (n0 k0 : Nat) (A1 : Option Addr) (n1 k1 : Nat) (A2 : Option Addr) (n2 k2 : Nat) (ms : List Mp) (compat : Bool) (s : Nat) (w : World) (n : Nat) (f : Int → Option Value) : Prop where
  bN : Box w s 28 [.slice A0 n0 k0, .slice A1 n1 k1, .slice A2 n2 k2]
  bB : Box w (s + 1) 4 [.bool compat]
  mp : MapI w (s + 2) n f
  bM : Box w (s + 3) 219 [.map (some (s + 2))]
  bX : Box w (s + 4) 169 [.func (.func 171) #[] #[.pointer (some ⟨s + 3, 0, none⟩), .pointer (some ⟨s, 0, none⟩), .pointer (some ⟨s + 1, 0, none⟩), .pointer (some ⟨s + 4, 0, none⟩)]]
  fd : ∀ c v, f c = some v → ∃ E d l, v = .slice E l.length d ∧ l.length ≤ d ∧ Full (onM ms compat) c l ∧ Ints w E l

section
variable {A0 : Option Addr} {n0 k0 : Nat} {A1 : Option Addr} {n1 k1 : Nat} {A2 : Option Addr} {n2 k2 : Nat} {ms : List Mp} {compat : Bool} {s : Nat} {w w' : World} {n : Nat} {f : Int → Option Value}
theorem XM.below (h : XM A0 n0 k0 A1 n1 k1 A2 n2 k2 ms compat s w n f) (hb : Below w.heap.size w w') : XM A0 n0 k0 A1 n1 k1 A2 n2 k2 ms compat s w' n f :=
  ⟨h.bN.below hb h.bN.lt, h.bB.below hb h.bB.lt, h.mp.below hb, h.bM.below hb h.bM.lt, h.bX.below hb h.bX.lt, fun c v e => by
    obtain ⟨E, d, l, h1, h2, h3, h4⟩ := h.fd c v e
    exact ⟨E, d, l, h1, h2, h3, h4.below hb⟩⟩
/-- blocks behind the map may change -/
theorem XM.belowB {B : Nat} (h : XM A0 n0 k0 A1 n1 k1 A2 n2 k2 ms compat s w n f) (hb : Below B w w') (hB : s + 4 < B) (hfd : ∀ c v, f c = some v → ∃ E d l, v = .slice E l.length d ∧ l.length ≤ d ∧ Full (onM ms compat) c l ∧ Ints w' E l) : XM A0 n0 k0 A1 n1 k1 A2 n2 k2 ms compat s w' n f :=
  ⟨h.bN.below hb (by omega), h.bB.below hb (by omega), by
    obtain ⟨D, ⟨es, clock, g1, g2⟩, g3⟩ := h.mp
    exact ⟨D, ⟨es, clock, (hb.block _ (by omega)).trans g1, g2⟩, g3⟩, h.bM.below hb (by omega), h.bX.below hb (by omega), hfd⟩
theorem XM.put (h : XM A0 n0 k0 A1 n1 k1 A2 n2 k2 ms compat s w n f) {m : Nat} {c : Int} {E : Option Addr} {d : Nat} {l : List Int} (hm : MapI w' (s + 2) m (fun y => if y = c then some (.slice E l.length d) else f y)) (hg : w.grownBy w' (some (s + 2)))
    (hd : l.length ≤ d) (hf : Full (onM ms compat) c l) (hE : Ints w E l) : XM A0 n0 k0 A1 n1 k1 A2 n2 k2 ms compat s w' m (fun y => if y = c then some (.slice E l.length d) else f y) := by
  refine ⟨h.bN.grown hg (by simp), h.bB.grown hg (by simp), hm, h.bM.grown hg (by simp), h.bX.grown hg (by simp), fun x v e => ?_⟩
  by_cases hx : x = c
  · rw [if_pos hx] at e
    injection e with e
    subst hx
    exact ⟨E, d, l, e.symm, hd, hf, Sl.grownM hE hg h.mp.nocell⟩
  · rw [if_neg hx] at e
    obtain ⟨E', d', l', h1, h2, h3, h4⟩ := h.fd x v e
    exact ⟨E', d', l', h1, h2, h3, Sl.grownM h4 hg h.mp.nocell⟩
end

/-- what expanding c gives -/
structure XRet (A0 : Option Addr) (n0 k0 : Nat) (A1 : Option Addr) (n1 k1 : Nat) (A2 : Option Addr) (n2 k2 : Nat) (ms : List Mp) (compat : Bool) (s : Nat) (c : Int) (l : List Int) (w : World) (n : Nat) (f : Int → Option Value) (E : Option Addr) (w' : World) (n' : Nat) (f' : Int → Option Value) : Prop where
  ints : Ints w' E l
  st : XM A0 n0 k0 A1 n1 k1 A2 n2 k2 ms compat s w' n' f'
  gr : w.grownBy w' (some (s + 2))
  pot : n' + unmarked (uM ms) (mkF f') ≤ n + unmarked (uM ms) (mkF f)
  fr : ∀ x E' m d, f' x = some (.slice E' m d) → f x = some (.slice E' m d) ∨ m = 0 ∨ ∀ b o, E' = some ⟨b, o, none⟩ → w.heap.size ≤ b
  mks : ∀ x, f' x ≠ none → f x ≠ none ∨ x = c ∨ Path (onM ms compat) c x
def XRetE (A0 : Option Addr) (n0 k0 : Nat) (A1 : Option Addr) (n1 k1 : Nat) (A2 : Option Addr) (n2 k2 : Nat) (ms : List Mp) (compat : Bool) (s : Nat) (c : Int) (l : List Int) (w : World) (n : Nat) (f : Int → Option Value) (e : Ending) (w' : World) : Prop :=
  ∃ E d n' f', e = .returned (.slice E l.length d) ∧ l.length ≤ d ∧ XRet A0 n0 k0 A1 n1 k1 A2 n2 k2 ms compat s c l w n f E w' n' f'
/-- the contract of the closure at c -/
def XOk (A0 : Option Addr) (n0 k0 : Nat) (A1 : Option Addr) (n1 k1 : Nat) (A2 : Option Addr) (n2 k2 : Nat) (ms : List Mp) (compat : Bool) (s : Nat) (w0 : World) (c : Int) (l : List Int) : Prop :=
  iok c → l.length ≤ 4096 → ∀ (w : World) (n : Nat) (f : Int → Option Value), XM A0 n0 k0 A1 n1 k1 A2 n2 k2 ms compat s w n f → Below s w0 w → n + unmarked (uM ms) (mkF f) ≤ 1000000000 →
    Calls Tryz.prog 171 #[.int .i64 c, .pointer (some ⟨s + 3, 0, none⟩), .pointer (some ⟨s, 0, none⟩), .pointer (some ⟨s + 1, 0, none⟩), .pointer (some ⟨s + 4, 0, none⟩)] w
      (XRetE A0 n0 k0 A1 n1 k1 A2 n2 k2 ms compat s c l w n f)
/-- what has been found does not lie in the row that is being made -/
def Apart (f : Int → Option Value) (B : Option Addr) : Prop := ∀ x E m d b o b' o', f x = some (.slice E m d) → E = some ⟨b, o, none⟩ → B = some ⟨b', o', none⟩ → m = 0 ∨ b ≠ b'
section
variable {A0 : Option Addr} {n0 k0 : Nat} {A1 : Option Addr} {n1 k1 : Nat} {A2 : Option Addr} {n2 k2 : Nat} {ms : List Mp} {compat : Bool} {s : Nat} {w w' : World} {n : Nat} {f : Int → Option Value}
/-- an append to a row that lies apart -/
theorem XM.app (h : XM A0 n0 k0 A1 n1 k1 A2 n2 k2 ms compat s w n f) {base m k : Nat} {ty : TypeId} {B : Option Addr} {xs : List Value} (ho : w.ownsRow base ty 1 (.slice B m k) m xs) (hap : Apart f B) (hg : w.grownBy w' (Value.ownBlock (.slice B m k))) (hb : Below base w w') (hB : s + 4 < base) : XM A0 n0 k0 A1 n1 k1 A2 n2 k2 ms compat s w' n f := by
  refine h.belowB hb hB fun c v e => ?_
  obtain ⟨E, d, l, h1, h2, h3, h4⟩ := h.fd c v e
  refine ⟨E, d, l, h1, h2, h3, fun hne => ?_⟩
  obtain ⟨b, o, rfl, hc⟩ := h4 hne
  refine ⟨b, o, rfl, fun j u hu => ?_⟩
  have hlt := World.block_lt_of_cell? w _ (hc j u hu)
  refine (World.cell?_of_block (hg.block b hlt ?_)).trans (hc j u hu)
  intro e2
  cases B with
  | none => simp [Value.ownBlock] at e2
  | some a =>
    obtain ⟨g, cap, cur, hv⟩ : ∃ g cap cur, (Value.slice (some a) m k) = .slice (some ⟨g, 0, none⟩) m cap ∧ w.heap[g]? = some (.cells cur ty (0, 0)) := by
      rcases ho.2 with ⟨hv, _⟩ | ⟨g, cap, cur, hv, _, hg2, _⟩
      · cases hv
      · exact ⟨g, cap, cur, hv, hg2⟩
    have hv1 := hv.1
    injection hv1 with hv1
    injection hv1 with hv1
    subst hv1
    simp only [Value.ownBlock, Option.some.injEq] at e2
    subst h1
    rcases hap c _ _ _ b o g 0 e rfl rfl with h0 | h0
    · have : l = [] := List.eq_nil_of_length_eq_zero h0
      subst this
      exact hne rfl
    · exact h0 e2
/-- whatever has been found lies apart from a block that is new -/
theorem XM.apart_new (h : XM A0 n0 k0 A1 n1 k1 A2 n2 k2 ms compat s w n f) : Apart f (some ⟨w.heap.size, 0, none⟩) := by
  intro x E m d b o b' o' e hE hB
  obtain ⟨E2, d2, l, h1, h2, h3, h4⟩ := h.fd x _ e
  injection h1 with g1 g2 g3
  subst g1; subst g2
  by_cases h0 : l = []
  · left; rw [h0]; rfl
  · right
    obtain ⟨b2, o2, hA, hc⟩ := h4 (by simpa using h0)
    rw [hE] at hA
    injection hA with hA
    injection hA with i1 i2
    subst i1; subst i2
    injection hB with hB
    injection hB with j1 j2
    obtain ⟨y, r, rfl⟩ : ∃ y r, l = y :: r := by cases l with | nil => exact absurd rfl h0 | cons y r => exact ⟨y, r, rfl⟩
    have := World.block_lt_of_cell? w _ (hc 0 _ rfl)
    simp at this
    omega
theorem Apart.nil (f : Int → Option Value) : Apart f none := by intro _ _ _ _ _ _ _ _ _ _ h; cases h
end
theorem zero_intsM (w : World) : (zeroValue 49).run Tryz.prog w = .ok (.slice none 0 0) w := by kernel_rfl
end Go.Proofs.YtpfbnikbebccjaaGreatDoor
/- The contract of decompose.expander$1: the full decomposition of a number. -/
namespace Go.Proofs.YtpfbnikbebccjaaGreatDoor
open Go.RowKit Go.Maps Go.WideMaps

theorem below_of_grown {a w : World} {U B : Nat} (h : a.grownBy w (some U)) (hB : B ≤ U) (hB2 : B ≤ a.heap.size) : Below B a w :=
  ⟨h.os, h.tape, h.output, h.size, fun k hk => h.block k (by omega) (fun e => by injection e with e; omega)⟩
theorem flat_take_le (vs : List (List Int)) (i : Nat) : (vs.take i).flatten.length ≤ vs.flatten.length := by
  conv => rhs; rw [← List.take_append_drop i vs, List.flatten_append, List.length_append]
  omega
theorem flat_take_succ {vs : List (List Int)} {i : Nat} (hi : i < vs.length) : (vs.take (i + 1)).flatten = (vs.take i).flatten ++ vs[i] := by
  rw [List.take_succ_eq_append_getElem hi, List.flatten_append, List.flatten_singleton]

/-- what holds in the loop over what c is replaced by -/
structure XLoop (A0 : Option Addr) (n0 k0 : Nat) (A1 : Option Addr) (n1 k1 : Nat) (A2 : Option Addr) (n2 k2 : Nat) (ms : List Mp) (compat : Bool) (s : Nat) (Q : Int → Prop) (fl : List Int) (w w1 : World) (n : Nat) (f : Int → Option Value) (B : Option Addr) (k : Nat) (W : World) (n' : Nat) (f' : Int → Option Value) : Prop where
  own : W.ownsRow w1.heap.size 3 1 (.slice B fl.length k) fl.length (fl.map (Value.int .i64))
  st : XM A0 n0 k0 A1 n1 k1 A2 n2 k2 ms compat s W n' f'
  gr : w1.grownBy W (some (s + 2))
  pot : n' + unmarked (uM ms) (mkF f') ≤ n + unmarked (uM ms) (mkF f)
  fr : ∀ x E' m d, f' x = some (.slice E' m d) → f x = some (.slice E' m d) ∨ m = 0 ∨ ∀ b o, E' = some ⟨b, o, none⟩ → w.heap.size ≤ b
  mks : ∀ x, f' x ≠ none → f x ≠ none ∨ Q x
  ap : Apart f' B
section
variable {A0 : Option Addr} {n0 k0 : Nat} {A1 : Option Addr} {n1 k1 : Nat} {A2 : Option Addr} {n2 k2 : Nat} {ms : List Mp} {compat : Bool} {s : Nat} {Q : Int → Prop} {e : Int} {fl l : List Int} {w w1 : World} {n : Nat} {f : Int → Option Value} {B : Option Addr} {k : Nat} {W : World} {n' : Nat} {f' : Int → Option Value}
theorem XLoop.lt (h : XLoop A0 n0 k0 A1 n1 k1 A2 n2 k2 ms compat s Q fl w w1 n f B k W n' f') : w1.heap.size ≤ W.heap.size := h.gr.size
/-- a call for an element -/
theorem XLoop.call (h : XLoop A0 n0 k0 A1 n1 k1 A2 n2 k2 ms compat s Q fl w w1 n f B k W n' f') (hw : w.heap.size ≤ w1.heap.size) (hs : s + 4 < w1.heap.size) (he : ∀ x, x = e ∨ Path (onM ms compat) e x → Q x) {E : Option Addr} {W2 : World} {n2' : Nat} {f2 : Int → Option Value}
    (p : XRet A0 n0 k0 A1 n1 k1 A2 n2 k2 ms compat s e l W n' f' E W2 n2' f2) : XLoop A0 n0 k0 A1 n1 k1 A2 n2 k2 ms compat s Q fl w w1 n f B k W2 n2' f2 := by
  have hbl : ∀ g o, B = some ⟨g, o, none⟩ → w1.heap.size ≤ g ∧ g < W.heap.size := by
    intro g o hB
    subst hB
    rcases h.own.2 with ⟨hv, _⟩ | ⟨g', cap, cur, hv, h1, h2, _⟩
    · cases hv
    · injection hv with hv
      injection hv with hv
      injection hv with hv
      subst hv
      exact ⟨h1, (Array.getElem?_eq_some_iff.1 h2).1⟩
  refine ⟨h.own.kept p.gr ?_, p.st, grownR_trans h.gr p.gr, Nat.le_trans p.pot h.pot, fun x E' m d e1 => ?_, fun x e1 => ?_, ?_⟩
  · cases B with
    | none => exact .inl rfl
    | some a =>
      right
      rcases h.own.2 with ⟨hv, _⟩ | ⟨g', cap, cur, hv, h1, h2, _⟩
      · cases hv
      · injection hv with hv
        rw [hv]
        simp only [Value.ownBlock]
        intro e2
        injection e2 with e2
        omega
  · rcases p.fr x E' m d e1 with e2 | e2 | e2
    · exact h.fr x E' m d e2
    · exact .inr (.inl e2)
    · exact .inr (.inr fun b o hb => by have := e2 b o hb; have := h.lt; omega)
  · rcases p.mks x e1 with e2 | e2 | e2
    · exact h.mks x e2
    · exact .inr (he x (.inl e2))
    · exact .inr (he x (.inr e2))
  · intro x E' m d b o b' o' e1 hE hB
    rcases p.fr x E' m d e1 with e2 | e2 | e2
    · exact h.ap x E' m d b o b' o' e2 hE hB
    · exact .inl e2
    · right
      have := e2 b o hE
      have := hbl b' o' hB
      omega
/-- the append behind it -/
theorem XLoop.app (h : XLoop A0 n0 k0 A1 n1 k1 A2 n2 k2 ms compat s Q fl w w1 n f B k W n' f') (hs : s + 4 < w1.heap.size) {B' : Option Addr} {k' : Nat} {W' : World} {zs : List Int}
    (ho : W'.ownsRow w1.heap.size 3 1 (.slice B' (fl.length + zs.length) k') (fl.length + zs.length) (fl.map (Value.int .i64) ++ zs.map (Value.int .i64))) (hb : Below w1.heap.size W W') (hg : W.grownBy W' (Value.ownBlock (.slice B fl.length k))) (hB : B' = B ∨ B' = some ⟨W.heap.size, 0, none⟩) :
    XLoop A0 n0 k0 A1 n1 k1 A2 n2 k2 ms compat s Q (fl ++ zs) w w1 n f B' k' W' n' f' := by
  refine ⟨by rw [List.length_append, List.map_append]; exact ho, h.st.app h.own h.ap hg hb hs, grown_belowB h.gr hb (Nat.le_refl _), h.pot, h.fr, h.mks, ?_⟩
  rcases hB with rfl | rfl
  · exact h.ap
  · exact h.st.apart_new
end

set_option maxRecDepth 100000 in
set_option maxHeartbeats 6400000 in
theorem expand_found (A0 : Option Addr) (n0 k0 : Nat) (A1 : Option Addr) (k1 : Nat) (A2 : Option Addr) (n2 k2 : Nat) (s : Nat) (ms : List Mp) (compat : Bool) (w0 : World) (_hs0 : s = w0.heap.size) (_hA : Mps w0 A1 ms) (_hst : StF ms) (_hco : CodesOk ms) (_hbig : ms.length ≤ 1048576) (c : Int) (l : List Int) (hF : Full (onM ms compat) c l) (hc : iok c)
    (w : World) (n : Nat) (f : Int → Option Value) (hms : XM A0 n0 k0 A1 ms.length k1 A2 n2 k2 ms compat s w n f) (_hbel : Below s w0 w) (_hn : n + unmarked (uM ms) (mkF f) ≤ 1000000000) {v : Value} (hfc : f c = some v) :
    Calls Tryz.prog 171 #[.int .i64 c, .pointer (some ⟨s + 3, 0, none⟩), .pointer (some ⟨s, 0, none⟩), .pointer (some ⟨s + 1, 0, none⟩), .pointer (some ⟨s + 4, 0, none⟩)] w
      (XRetE A0 n0 k0 A1 ms.length k1 A2 n2 k2 ms compat s c l w n f) := by
  obtain ⟨E, d, l', rfl, h2, h3, h4⟩ := hms.fd c v hfc
  obtain rfl := h3.func hF
  have qm : w.cell? ⟨s + 3, 0, none⟩ = some (.map (some (s + 2))) := hms.bM.cell rfl
  have HM := Lib.hid hms
  have HE := Lib.hid h4
  clear hms _hA _hst _hco h3 hF h4 _hs0
  go_enter Tryz.func171, Tryz.ntmps171
  go_wp2_with (at_lookup; refine wpList_lookOk rfl _ _ 219 rfl HM.out.mp law_int Tryz.underlying219 (zero_intsM _) rfl rfl hc (key_int hc) ?_; rw [hfc]; simp only [Option.getD_some, Option.isSome_some])
  go_ret
  exact ⟨E, d, n, f, rfl, h2, HE.out, HM.out, grownR_refl w _, Nat.le_refl _, fun x E' m d e => .inl e, fun x e => .inl e⟩

set_option maxRecDepth 100000 in
set_option maxHeartbeats 6400000 in
theorem expand_leaf (A0 : Option Addr) (n0 k0 : Nat) (A1 : Option Addr) (k1 : Nat) (A2 : Option Addr) (n2 k2 : Nat) (s : Nat) (ms : List Mp) (compat : Bool) (w0 : World) (hs0 : s = w0.heap.size) (hA : Mps w0 A1 ms) (hst : StF ms) (_hco : CodesOk ms) (hbig : ms.length ≤ 1048576) (c : Int) (hR : onM ms compat c = none) (hc : iok c)
    (w : World) (n : Nat) (f : Int → Option Value) (hms : XM A0 n0 k0 A1 ms.length k1 A2 n2 k2 ms compat s w n f) (hbel : Below s w0 w) (_hn : n + unmarked (uM ms) (mkF f) ≤ 1000000000) (hfc : f c = none) :
    Calls Tryz.prog 171 #[.int .i64 c, .pointer (some ⟨s + 3, 0, none⟩), .pointer (some ⟨s, 0, none⟩), .pointer (some ⟨s + 1, 0, none⟩), .pointer (some ⟨s + 4, 0, none⟩)] w
      (XRetE A0 n0 k0 A1 ms.length k1 A2 n2 k2 ms compat s c [c] w n f) := by
  have ON := Lib.hid (fun W (hb : Below s w0 W) => once_any A0 n0 k0 A1 ms.length k1 A2 n2 k2 ms c compat W (hA.below (hs0 ▸ hb)) rfl hbig hst)
  have q0 : w.cell? ⟨s, 0, none⟩ = some (.slice A0 n0 k0) := hms.bN.cell rfl
  have q1 : w.cell? ⟨s, 1, none⟩ = some (.slice A1 ms.length k1) := hms.bN.cell rfl
  have q2 : w.cell? ⟨s, 2, none⟩ = some (.slice A2 n2 k2) := hms.bN.cell rfl
  have qb : w.cell? ⟨s + 1, 0, none⟩ = some (.bool compat) := hms.bB.cell rfl
  have qm : w.cell? ⟨s + 3, 0, none⟩ = some (.map (some (s + 2))) := hms.bM.cell rfl
  have HM := Lib.hid hms
  rw [hR] at ON
  clear hms hA hst _hco hR hs0
  go_enter Tryz.func171, Tryz.ntmps171
  go_wp2_with (at_lookup; refine wpList_lookOk rfl _ _ 219 rfl HM.out.mp law_int Tryz.underlying219 (zero_intsM _) rfl rfl hc (key_int hc) ?_; rw [hfc]; simp only [Option.getD_none, Option.isSome_none])
  with_reducible refine (ON.out _ hbel).mono ?_
  rintro e w1 ⟨E, d, rfl, hd, hE, hb1⟩
  simp only [Option.getD_none, Option.isSome_none]
  have HM1 := Lib.hid (HM.out.below hb1)
  clear ON hE hd
  go_wp2_with fail
  go_ret
  have hb2 := hb1.alloc hb1.size (.cells #[.int .i64 c] 3)
  exact ⟨some ⟨w1.heap.size, 0, none⟩, 1, n, f, rfl, Nat.le_refl _, Ints_new w1 [c] _ rfl, HM1.out.below ((Below.refl _ _).alloc (Nat.le_refl _) _), grownR_below (grownR_refl w _) hb2, Nat.le_refl _, fun x E' m d e => .inl e, fun x e => .inl e⟩

set_option maxRecDepth 100000 in
set_option maxHeartbeats 6400000 in
theorem expand_node (A0 : Option Addr) (n0 k0 : Nat) (A1 : Option Addr) (k1 : Nat) (A2 : Option Addr) (n2 k2 : Nat) (s : Nat) (ms : List Mp) (compat : Bool) (w0 : World) (hs0 : s = w0.heap.size) (hA : Mps w0 A1 ms) (hst : StF ms) (hco : CodesOk ms) (hbig : ms.length ≤ 1048576) (c : Int) (to : List Int) (vs : List (List Int)) (hR : onM ms compat c = some to) (hlen : vs.length = to.length) (hk : ∀ i, (hi : i < to.length) → (hv : i < vs.length) → Full (onM ms compat) to[i] vs[i])
    (ih : ∀ i, (hi : i < to.length) → (hv : i < vs.length) → XOk A0 n0 k0 A1 ms.length k1 A2 n2 k2 ms compat s w0 to[i] vs[i]) (hc : iok c) (hl : vs.flatten.length ≤ 4096)
    (w : World) (n : Nat) (f : Int → Option Value) (hms : XM A0 n0 k0 A1 ms.length k1 A2 n2 k2 ms compat s w n f) (hbel : Below s w0 w) (hn : n + unmarked (uM ms) (mkF f) ≤ 1000000000) (hfc : f c = none) :
    Calls Tryz.prog 171 #[.int .i64 c, .pointer (some ⟨s + 3, 0, none⟩), .pointer (some ⟨s, 0, none⟩), .pointer (some ⟨s + 1, 0, none⟩), .pointer (some ⟨s + 4, 0, none⟩)] w
      (XRetE A0 n0 k0 A1 ms.length k1 A2 n2 k2 ms compat s c vs.flatten w n f) := by
  have ON := Lib.hid (fun W (hb : Below s w0 W) => once_any A0 n0 k0 A1 ms.length k1 A2 n2 k2 ms c compat W (hA.below (hs0 ▸ hb)) rfl hbig hst)
  have q0 : w.cell? ⟨s, 0, none⟩ = some (.slice A0 n0 k0) := hms.bN.cell rfl
  have q1 : w.cell? ⟨s, 1, none⟩ = some (.slice A1 ms.length k1) := hms.bN.cell rfl
  have q2 : w.cell? ⟨s, 2, none⟩ = some (.slice A2 n2 k2) := hms.bN.cell rfl
  have qb : w.cell? ⟨s + 1, 0, none⟩ = some (.bool compat) := hms.bB.cell rfl
  have qm : w.cell? ⟨s + 3, 0, none⟩ = some (.map (some (s + 2))) := hms.bM.cell rfl
  have HM := Lib.hid hms
  have HNW := Lib.hid ((Full.node hR hlen hk).noway)
  have HFU := Lib.hid (Full.node hR hlen hk)
  have HU := Lib.hid (onM_uM hR)
  have HED := Lib.hid (fun e (he : e ∈ to) x (h : x = e ∨ Path (onM ms compat) e x) => show Path (onM ms compat) c x from h.elim (fun g => g ▸ .one ⟨to, hR, he⟩) (fun g => g.front ⟨to, hR, he⟩))
  have HIO := Lib.hid (onM_codes hco hR)
  have HTL := Lib.hid (onM_kids hco hR).1
  have IH := Lib.hid ih
  have HLN := Lib.hid hlen
  rw [hR] at ON
  have hsw : s + 4 < w.heap.size := hms.bX.lt
  clear hms hA hst hco hR hk ih hlen hs0
  go_enter Tryz.func171, Tryz.ntmps171
  go_wp2_with (at_lookup; refine wpList_lookOk rfl _ _ 219 rfl HM.out.mp law_int Tryz.underlying219 (zero_intsM _) rfl rfl hc (key_int hc) ?_; rw [hfc]; simp only [Option.getD_none, Option.isSome_none])
  with_reducible refine (ON.out _ hbel).mono ?_
  rintro e w1 ⟨E, d, rfl, hd, hE, hb1⟩
  simp only [Option.getD_some, Option.isSome_some] at hd hE ⊢
  have HM1 := Lib.hid (HM.out.below hb1)
  have hsw1 : s + 4 < w1.heap.size := by have := hb1.size; omega
  have hww : w.heap.size ≤ w1.heap.size := hb1.size
  have HG1 := Lib.hid (show w.grownBy w1 (some (s + 2)) from grownR_below (grownR_refl w _) hb1)
  have htl := HTL.out
  have HB1 := Lib.hid (hbel.trans (hb1.mono (by omega : s ≤ w.heap.size)))
  have HE := Lib.hid hE
  clear ON hE hb1 q0 q1 q2 qb qm
  go_wp2_with fail
  go_loopw [11, 35] (fun u q wr => ∃ (i n' : Nat) (f' : Int → Option Value) (B : Option Addr) (k : Nat), i ≤ to.length ∧ u = .slice B ((vs.take i).flatten).length k ∧ q = .int .i64 i ∧ XLoop A0 n0 k0 A1 ms.length k1 A2 n2 k2 ms compat s (Path (onM ms compat) c) ((vs.take i).flatten) w w1 n f B k wr n' f')
    (fun _ q _ => to.length - (intOf q).toNat)
  case atStart =>
    exact ⟨0, n, f, none, 0, Nat.zero_le _, rfl, rfl, ⟨World.ownsRow_nil _ _ _ _, HM1.out, grownR_refl _ _, Nat.le_refl _, fun x E' m d e => .inl e, fun x e => .inl e, Apart.nil f⟩⟩
  case round =>
    obtain ⟨i, n', f', B, k, hile, rfl, rfl, HL0⟩ := hrel
    have HL := Lib.hid HL0
    clear HL0
    by_cases hi : i < to.length
    · have hv : i < vs.length := by rw [HLN.out]; exact hi
      obtain ⟨b, o, rfl, hcell⟩ := (show Ints wr E to from Sl.grownM HE.out HL.out.gr HM1.out.mp.nocell).at hi
      have hc0 := hcell i hi
      clear hcell
      have p5 : wr.cell? ⟨s + 4, 0, none⟩ = some (.func (.func 171) #[] #[.pointer (some ⟨s + 3, 0, none⟩), .pointer (some ⟨s, 0, none⟩), .pointer (some ⟨s + 1, 0, none⟩), .pointer (some ⟨s + 4, 0, none⟩)]) := HL.out.st.bX.cell rfl
      have hmem : to[i] ∈ to := List.getElem_mem hi
      have hfl : ((vs.take i).flatten).length + vs[i].length ≤ 4096 := by
        have h1 := flat_take_le vs (i + 1)
        rw [flat_take_succ hv, List.length_append] at h1
        omega
      have CL := Lib.hid (IH.out i hi hv (HIO.out _ hmem) (by omega) wr n' f' HL.out.st (HB1.out.trans (below_of_grown HL.out.gr (by omega) (by omega))) (by have := HL.out.pot; omega))
      have NX := Lib.hid (fun (E2 : Option Addr) W n9 f9 (p : XRet A0 n0 k0 A1 ms.length k1 A2 n2 k2 ms compat s to[i] vs[i] wr n' f' E2 W n9 f9) => HL.out.call hww hsw1 (HED.out _ hmem) p)
      have FSq := Lib.hid (flat_take_succ hv)
      clear hmem
      generalize to[i] = te at *
      generalize vs[i] = ve at *
      generalize (vs.take i).flatten = fl at *
      go_wp2_with fail
      with_reducible refine CL.out.mono ?_
      rintro e W ⟨E2, d2, n9, f9, rfl, hd2, hp⟩
      have HL2 := Lib.hid (NX.out E2 W n9 f9 hp)
      have HE2 := Lib.hid hp.ints
      clear hp CL NX p5 HL
      go_wp2_with (at_builtin; refine wpList_app _ _ 49 3 (.int .i64 0) 1 8 rfl rfl Tryz.underlying49 info_int rfl (by decide) (by decide) rfl HL2.out.own rfl HE2.out (by simp) (oneCell_ints _) (by omega) HL2.out.lt ?_; intro B3 k3 w3 hown3 hc3 hb3 hg3 hB3)
      have HL3 := Lib.hid (HL2.out.app hsw1 hown3 hb3 hg3 hB3)
      clear hown3 hb3 hg3 hB3 HL2 HE2
      go_wp2_with fail
      go_roundw
      case rel => exact ⟨i + 1, n9, f9, B3, k3, by omega, by rw [FSq.out, List.length_append], by go_num, by rw [FSq.out]; exact HL3.out⟩
      case measure => simp [intOf]; omega
    · have hi' : i = to.length := by omega
      subst hi'
      have p3 : wr.cell? ⟨s + 3, 0, none⟩ = some (.map (some (s + 2))) := HL.out.st.bM.cell rfl
      have hfe : (vs.take to.length).flatten = vs.flatten := by rw [← HLN.out, List.take_length]
      rw [hfe] at HL ⊢
      have hfc' : f' c = none := by
        cases hx : f' c with
        | none => rfl
        | some v =>
          rcases HL.out.mks c (by rw [hx]; simp) with e | e
          · exact absurd hfc e
          · exact absurd e HNW.out
      have hpot : n' + 1 + unmarked (uM ms) (putM (mkF f') c 0) ≤ n + unmarked (uM ms) (mkF f) := by
        have h1 := unmarked_put (k := 0) HU.out (mkF_none.2 hfc')
        have h2 := HL.out.pot
        omega
      have HPOT := Lib.hid hpot
      have hnn : n' < maxLen := by unfold maxLen; omega
      obtain ⟨hkk, hbl⟩ : vs.flatten.length ≤ k ∧ ∀ g o, B = some ⟨g, o, none⟩ → w.heap.size ≤ g := by
        refine ⟨?_, fun g o hB => ?_⟩
        · obtain ⟨_, _, hv, hk⟩ := own_form HL.out.own
          injection hv with _ _ hv
          subst hv
          exact hk
        · subst hB
          rcases HL.out.own.2 with ⟨hv, _⟩ | ⟨g', cap, cur, hv, h1, h2, _⟩
          · cases hv
          · injection hv with hv
            injection hv with hv
            injection hv with hv
            subst hv
            omega
      have HBL := Lib.hid hbl
      have HEX := Lib.hid (show Ints wr B vs.flatten from Sl.of_own HL.out.own)
      clear hpot hfc' hbl hfe
      generalize vs.flatten = fl at *
      go_wp2_with (at_mapUpdate; refine wpList_mput rfl _ _ _ 219 rfl HL.out.st.mp law_int Tryz.underlying219 hnn rfl rfl rfl hc (key_int hc) (fun y _ e => ikey_inj e) ?_; intro w3 hM3 hg3)
      go_ret
      refine ⟨B, k, n' + 1, _, rfl, hkk, Sl.grownM HEX.out hg3 HL.out.st.mp.nocell, HL.out.st.put hM3 hg3 hkk HFU.out HEX.out, (grownR_trans (grownR_trans HG1.out HL.out.gr) hg3), by rw [mkF_put]; exact HPOT.out, fun x E' m d e => ?_, fun x e => ?_⟩
      · by_cases hx : x = c
        · rw [if_pos hx] at e
          injection e with e
          injection e with e1 e2 e3
          subst e1
          exact .inr (.inr HBL.out)
        · rw [if_neg hx] at e
          exact HL.out.fr x E' m d e
      · by_cases hx : x = c
        · exact .inr (.inl hx)
        · rw [if_neg hx] at e
          rcases HL.out.mks x e with e1 | e1
          · exact .inl e1
          · exact .inr (.inr e1)

theorem expand_ok (A0 : Option Addr) (n0 k0 : Nat) (A1 : Option Addr) (k1 : Nat) (A2 : Option Addr) (n2 k2 : Nat) (s : Nat) (ms : List Mp) (compat : Bool) (w0 : World) (hs0 : s = w0.heap.size) (hA : Mps w0 A1 ms) (hst : StF ms) (hco : CodesOk ms) (hbig : ms.length ≤ 1048576) {c : Int} {l : List Int}
    (hfull : Full (onM ms compat) c l) : XOk A0 n0 k0 A1 ms.length k1 A2 n2 k2 ms compat s w0 c l := by
  induction hfull with
  | @leaf c hR =>
    intro hc hl w n f hms hbel hn
    cases hf : f c with
    | some v => exact expand_found A0 n0 k0 A1 k1 A2 n2 k2 s ms compat w0 hs0 hA hst hco hbig c [c] (.leaf hR) hc w n f hms hbel hn hf
    | none => exact expand_leaf A0 n0 k0 A1 k1 A2 n2 k2 s ms compat w0 hs0 hA hst hco hbig c hR hc w n f hms hbel hn hf
  | @node c to vs hR hlen hk ih =>
    intro hc hl w n f hms hbel hn
    cases hf : f c with
    | some v => exact expand_found A0 n0 k0 A1 k1 A2 n2 k2 s ms compat w0 hs0 hA hst hco hbig c _ (.node hR hlen hk) hc w n f hms hbel hn hf
    | none => exact expand_node A0 n0 k0 A1 k1 A2 n2 k2 s ms compat w0 hs0 hA hst hco hbig c to vs hR hlen hk ih hc hl w n f hms hbel hn hf
end Go.Proofs.YtpfbnikbebccjaaGreatDoor
