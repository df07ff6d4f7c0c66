/- The contract of ordering.Sort: the text in order, in a new slice. -/
import Derived.Test.YthagfcdleapooaaDoorCollect
import Derived.Test.YthagfcdleapooaaDoorSortA
import Derived.Test.YthagfcdleapooaaDoorCanon
namespace Go.Proofs.YthagfcdleapooaaDoor
open Go.RowKit Go.Shelf
attribute [local go_sem] Oper.semAt_some

/-- an owned row of ints that is not empty, as a row in its block -/
theorem own_row {w : World} {base : Nat} {e : TypeId} {A : Option Addr} {n c : Nat} {d : List Int} (h : w.ownsRow base e 1 (.slice A n c) n (d.map (Value.int .i64))) (hn : 0 < n) :
    ∃ g post, A = some ⟨g, 0, none⟩ ∧ base ≤ g ∧ Row w g 0 e [] post d ∧ d.length = n ∧ n + post.length = c ∧ c ≤ maxLen := by
  obtain ⟨h1, h2⟩ := h
  rcases h2 with ⟨hv, rfl⟩ | ⟨g, cap, cur, hv, hb, hg, hnc, hcm, hcur, htake⟩
  · omega
  · injection hv with hA _ hc
    subst hA; subst hc
    simp only [Nat.mul_one, List.length_map] at *
    refine ⟨g, cur.toList.drop n, rfl, hb, ⟨rfl, ?_⟩, h1, by simp; omega, hcm⟩
    unfold Blk
    rw [List.nil_append, ← htake, List.take_append_drop]
    exact hg

theorem row_own {w : World} {base g n c : Nat} {e : TypeId} {post : List Value} {d : List Int} (h : Row w g 0 e [] post d) (hb : base ≤ g) (hn : d.length = n) (hc : n + post.length = c) (hcm : c ≤ maxLen) :
    w.ownsRow base e 1 (.slice (some ⟨g, 0, none⟩) n c) n (d.map (Value.int .i64)) := by
  refine ⟨by simp [hn], .inr ⟨g, c, _, rfl, hb, h.2, by omega, hcm, by simp; omega, ?_⟩⟩
  simp [← hn]

theorem Row.cut {w : World} {g : Nat} {e : TypeId} {post : List Value} {d : List Int} (h : Row w g 0 e [] post d) {lo hi : Nat} (h1 : lo ≤ hi) (h2 : hi ≤ d.length) :
    Row w g lo e ((d.take lo).map (Value.int .i64)) ((d.drop hi).map (Value.int .i64) ++ post) ((d.drop lo).take (hi - lo)) := by
  refine ⟨by simp; omega, ?_⟩
  have := h.2
  unfold Blk at this ⊢
  rw [this]
  congr 2
  have hp := Srt.parts d lo lo hi (Nat.le_refl _) h1
  simp only [Nat.sub_self, List.take_zero, List.nil_append] at hp
  rw [List.nil_append]
  conv => lhs; rw [hp]
  simp

theorem Row.uncut {w : World} {g lo : Nat} {e : TypeId} {post : List Value} {p s q : List Int} (h : Row w g lo e (p.map (Value.int .i64)) (q.map (Value.int .i64) ++ post) s) : Row w g 0 e [] post (p ++ s ++ q) := by
  refine ⟨rfl, ?_⟩
  have := h.2
  unfold Blk at this ⊢
  rw [this]
  simp

theorem rns_in (cl : Int → Int) (l : List Int) (i : Nat) (s : Option Nat) (hs : ∀ x, s = some x → x < i) : ∀ r ∈ rns cl l i s, r.1 < r.2 ∧ r.2 ≤ i + l.length := by
  induction l generalizing i s with
  | nil =>
    cases s with
    | none => intro r hr; cases hr
    | some s => intro r hr; simp only [rns, List.mem_singleton] at hr; subst hr; have := hs s rfl; simp; omega
  | cons c t ih =>
    have h1 := ih (i + 1) none (fun _ h => by cases h)
    have h2 := ih (i + 1) (some i) (fun x h => by cases h; omega)
    cases s with
    | none =>
      intro r hr
      simp only [rns] at hr
      simp only [List.length_cons]
      split at hr
      · have := h1 r hr; omega
      · have := h2 r hr; omega
    | some s =>
      have hs' := hs s rfl
      have h3 := ih (i + 1) (some s) (fun x h => by cases h; omega)
      intro r hr
      simp only [rns] at hr
      simp only [List.length_cons]
      split at hr
      · simp only [List.mem_cons] at hr
        rcases hr with rfl | hr
        · simp; omega
        · have := h1 r hr; omega
      · have := h3 r hr; omega

/-- a range of at most n -/
abbrev Rg (n : Nat) := { x : Nat × Nat // x.1 < x.2 ∧ x.2 ≤ n }
theorem rg_all {n : Nat} (l : List (Nat × Nat)) (h : ∀ r ∈ l, r.1 < r.2 ∧ r.2 ≤ n) : ∃ all : List (Rg n), all.map (fun x => x.1) = l := by
  induction l with
  | nil => exact ⟨[], rfl⟩
  | cons x l ih =>
    obtain ⟨all, ha⟩ := ih fun r hr => h r (List.mem_cons_of_mem _ hr)
    exact ⟨⟨x, h x (List.mem_cons_self ..)⟩ :: all, by rw [List.map_cons, ha]⟩

/-- a slice of the ints zs is returned; nothing that was there has changed -/
def RetInts (zs : List Int) (w : World) (e : Ending) (w' : World) : Prop := ∃ A c, e = .returned (.slice A zs.length c) ∧ zs.length ≤ c ∧ Ints w' A zs ∧ Below w.heap.size w w'

/-- a cell that holds something holds it behind what turns no cells -/
theorem cell_grown {W W' : World} {row : Option Nat} (hg : W.grownBy W' row) (hr : ∀ r, row = some r → ∃ o : Obj, W.heap[r]? = some o ∧ o.isCells = false) {p : Addr} {v : Value} (h : W.cell? p = some v) : W'.cell? p = some v := by
  have hlt := World.block_lt_of_cell? W p h
  refine (World.cell?_of_block (w := W) (hg.block p.block hlt fun e => ?_)).trans h
  obtain ⟨o, ho, hc⟩ := hr p.block e.symm
  unfold World.cell? at h
  rw [ho] at h
  cases o with
  | cells c t f => cases hc
  | _ => simp at h

theorem Sl.grown {W W' : World} {row : Option Nat} {A : Option Addr} {cs : List Value} (h : Sl W A cs) (hg : W.grownBy W' row) (hr : ∀ r, row = some r → ∃ o : Obj, W.heap[r]? = some o ∧ o.isCells = false) : Sl W' A cs := by
  intro hne
  obtain ⟨b, o, rfl, hc⟩ := h hne
  exact ⟨b, o, rfl, fun j u hu => cell_grown hg hr (hc j u hu)⟩

/-- what holds between two runs: the box of out, its row (sorted so far), the box of l and its spans -/
structure SortI (key : Int → Int) (text : List Int) (base Bo Bl : Nat) (A : Option Addr) (n c : Nat) (A1 : Option Addr) (n1 k1 : Nat) (ts : List Spn) (w : World) (pre : List (Nat × Nat)) (W : World) : Prop where
  box : Boxed W Bo 27 (.slice A n c)
  row : ∃ d, W.ownsRow base 3 1 (.slice A n c) n (d.map (Value.int .i64)) ∧ Srt.Stp key text pre d
  l : W.cell? ⟨Bl, 0, none⟩ = some (.slice A1 n1 k1)
  sp : Spans W A1 ts
  bel : Below w.heap.size w W

theorem SortI.own {key : Int → Int} {text : List Int} {base Bo Bl : Nat} {A : Option Addr} {n c : Nat} {A1 : Option Addr} {n1 k1 : Nat} {ts : List Spn} {w : World} {β : Type} (f : β → List (Nat × Nat)) {B : Nat} (hB : w.heap.size ≤ B) :
    OwnFrom B (fun s W => SortI key text base Bo Bl A n c A1 n1 k1 ts w (f s) W) := by
  intro s X Y row h hg hr
  have hr' : ∀ r, row = some r → ∃ o : Obj, X.heap[r]? = some o ∧ o.isCells = false := fun r e => (hr r e).2
  refine ⟨h.box.kept hg (fun e' => ?_), ?_, cell_grown hg hr' h.l, Sl.grown h.sp hg hr', ?_⟩
  · obtain ⟨o, ho, hc⟩ := hr' Bo e'.symm
    rw [show X.heap[Bo]? = _ from h.box] at ho; cases ho; cases hc
  · obtain ⟨d, hd, hs⟩ := h.row
    refine ⟨d, hd.kept hg ?_, hs⟩
    rcases hd.2 with ⟨hv, _⟩ | ⟨g, cap, cur, hv, _, hgb, _⟩
    · rw [hv]; exact .inl rfl
    · rw [hv]
      refine .inr fun e' => ?_
      obtain ⟨o, ho, hc⟩ := hr' g (by simpa [Value.ownBlock] using e'.symm)
      rw [hgb] at ho; cases ho; cases hc
  · exact h.bel.grown hg h.bel.size (fun k e => Nat.le_trans hB (hr k e).1)

theorem SortI.alloc {key : Int → Int} {text : List Int} {base Bo Bl : Nat} {A : Option Addr} {n c : Nat} {A1 : Option Addr} {n1 k1 : Nat} {ts : List Spn} {w W : World} {pre : List (Nat × Nat)} (h : SortI key text base Bo Bl A n c A1 n1 k1 ts w pre W) (o : Obj) : SortI key text base Bo Bl A n c A1 n1 k1 ts w pre (W.alloc o) :=
  OwnFrom.alloc (SortI.own (fun s : List (Nat × Nat) => s) (B := w.heap.size) (Nat.le_refl _)) (s := pre) o h

end Go.Proofs.YthagfcdleapooaaDoor
