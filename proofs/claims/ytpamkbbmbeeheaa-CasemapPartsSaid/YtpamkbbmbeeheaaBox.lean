/- Boxes known whole, maps and other blocks kept, and more steps in a region that draws its order. No program in sight. -/
import Derived.Test.YtpamkbbmbeeheaaHeldSkip
import Derived.Test.YtpamkbbmbeeheaaMaps
namespace Go.Proofs.Ytpamkbbmbeeheaa
open Go.RowKit Go.Maps Go.WideMaps

/-- block b is the cells cs, none of them frozen -/
def Box (w : World) (b : Nat) (t : TypeId) (cs : List Value) : Prop := w.heap[b]? = some (.cells cs.toArray t (0, 0))
section
variable {w w' : World} {b : Nat} {t : TypeId} {cs : List Value}
theorem Box.lt (h : Box w b t cs) : b < w.heap.size := by
  rcases Nat.lt_or_ge b w.heap.size with g | g
  · exact g
  · unfold Box at h; rw [Array.getElem?_eq_none g] at h; cases h
theorem Box.cell (h : Box w b t cs) {i : Nat} {v : Value} (hv : cs[i]? = some v) : w.cell? ⟨b, i, none⟩ = some v := by
  unfold Box at h
  simp [World.cell?, h, hv]
theorem Box.free (h : Box w b t cs) (i : Nat) : w.frozen? ⟨b, i, none⟩ = false := by
  unfold Box at h
  simp [World.frozen?, h]
theorem Box.new (w : World) (t : TypeId) (cs : List Value) {b : Nat} (hb : b = w.heap.size) : Box (w.alloc (.cells cs.toArray t)) b t cs := by
  subst hb
  show (w.heap.push _)[w.heap.size]? = _
  simp
theorem Box.below {B : Nat} (h : Box w b t cs) (hb : Below B w w') (hg : b < B) : Box w' b t cs := (hb.block b hg).trans h
theorem Box.grown {row : Option Nat} (h : Box w b t cs) (hg : w.grownBy w' row) (hne : some b ≠ row) : Box w' b t cs := (hg.block b h.lt hne).trans h
theorem Box.set (h : Box w b t cs) (i : Nat) (u : Value) : Box (w.setCell ⟨b, i, none⟩ u) b t (cs.set i u) := by
  unfold Box at h ⊢
  simp [World.setCell, Array.getElem?_modify, h]
end

theorem grown_set (w : World) (p : Addr) (u : Value) : w.grownBy (w.setCell p u) (some p.block) :=
  ⟨rfl, rfl, rfl, by simp [World.setCell], fun k _ hne => Below.heap_setCell w p u k (fun e => hne (by rw [e]))⟩
/-- all blocks but U are as they were -/
def KeepM (U : Nat) (w w' : World) : Prop := w.heap.size ≤ w'.heap.size ∧ ∀ b, b < w.heap.size → b ≠ U → w'.heap[b]? = w.heap[b]?
section
variable {U : Nat} {a b c : World}
theorem KeepM.refl (U : Nat) (a : World) : KeepM U a a := ⟨Nat.le_refl _, fun _ _ _ => rfl⟩
theorem KeepM.below (h : KeepM U a b) (hb : Below b.heap.size b c) : KeepM U a c := ⟨Nat.le_trans h.1 hb.size, fun q hq hn => (hb.block q (Nat.lt_of_lt_of_le hq h.1)).trans (h.2 q hq hn)⟩
theorem KeepM.grown (h : KeepM U a b) (hg : b.grownBy c (some U)) : KeepM U a c := ⟨Nat.le_trans h.1 hg.size, fun q hq hn => (hg.block q (Nat.lt_of_lt_of_le hq h.1) (fun e => hn (by injection e))).trans (h.2 q hq hn)⟩
theorem KeepM.sl {A : Option Addr} {cs : List Value} (h : KeepM U a b) (hU : ∀ o, a.cell? ⟨U, o, none⟩ = none) (hs : Sl a A cs) : Sl b A cs := fun hne => by
  obtain ⟨q, o, rfl, hc⟩ := hs hne
  refine ⟨q, o, rfl, fun j u hu => ?_⟩
  have h1 := hc j u hu
  have hq : q ≠ U := fun e => by rw [e, hU] at h1; cases h1
  exact (World.cell?_of_block (h.2 q (World.block_lt_of_cell? a _ h1) hq)).trans h1
end
theorem MapIs.nocell {κ : Type} {P : Program} {k : TypeId} {kl : κ → Lit} {ok : κ → Prop} {w : World} {b n : Nat} {f : κ → Option Value} (h : MapIs P k kl ok w b n f) (o : Nat) : w.cell? ⟨b, o, none⟩ = none := by
  obtain ⟨D, ⟨es, clock, h1, _⟩, _⟩ := h
  simp [World.cell?, h1]

section
variable {P : Program} {ops : Array Oper} {Q : Exit → Act → World → Prop} {md : Region.Mode} {S : World → Prop}
/-- a call after which more is known than S -/
theorem anyH_callR {R : World → Prop} {i : Nat} {oi : Oper} {fuel : Nat} {listed : Array Bool} {a : Act} {w : World} (d : Option Tmp) {f : FuncId} {args : Array Value} {v : Value} (hi : ops[i]? = some oi) (hd : oi.dst = d)
    (hr : Region.ready md ops listed = [i]) (hw : Region.wanted oi (yielded ops a.tmps) = true) (he : (execOp a.eval oi).run P w = .ok (.enter f args) w)
    (hc : Calls P f args w (fun e w' => e = .returned v ∧ S w' ∧ R w'))
    (h : ∀ w', S w' → R w' → wpAnyH P md ops Q S fuel (listed.setIfInBounds i true) (a.put d v) w') : wpAnyH P md ops Q S (fuel + 1) listed a w := by
  subst hd
  refine wpAnyH_ready hr (by simp) (AllReadyH.cons hi (fun K hK => ?_) AllReadyH.nil)
  rw [if_pos hw]
  unfold Oper.wp
  rw [he]
  simp only [Oper.upon]
  refine hc.mono ?_
  rintro e w' ⟨rfl, hS', hR'⟩
  exact hK.out _ _ hS' (fun hh => h w' hh hR')
/-- an operation that is the only one that may come up, run as it is -/
theorem anyH_do {i : Nat} {oi : Oper} {fuel : Nat} {listed : Array Bool} {a : Act} {w : World} (hi : ops[i]? = some oi)
    (hr : Region.ready md ops listed = [i]) (hw : Region.wanted oi (yielded ops a.tmps) = true)
    (h : ∀ K : Act → World → Prop, Shut (∀ a w, S w → (S w → wpAnyH P md ops Q S fuel (listed.setIfInBounds i true) a w) → K a w) → Oper.wp P oi a w K Q) : wpAnyH P md ops Q S (fuel + 1) listed a w := by
  refine wpAnyH_ready hr (by simp) (AllReadyH.cons hi (fun K hK => ?_) AllReadyH.nil)
  rw [if_pos hw]
  exact h K hK
/-- an operation that yields a value and changes the world, the only one that may come up -/
theorem anyH_val {i : Nat} {oi : Oper} {fuel : Nat} {listed : Array Bool} {a : Act} {w w' : World} {v : Value} (d : Option Tmp) (hi : ops[i]? = some oi) (hd : oi.dst = d)
    (hr : Region.ready md ops listed = [i]) (hw : Region.wanted oi (yielded ops a.tmps) = true) (he : (execOp a.eval oi).run P w = .ok (.value v) w') (hS : S w')
    (h : wpAnyH P md ops Q S fuel (listed.setIfInBounds i true) (a.put d v) w') : wpAnyH P md ops Q S (fuel + 1) listed a w := by
  subst hd
  refine anyH_do hi hr hw (fun K hK => ?_)
  unfold Oper.wp
  rw [he]
  simp only [Oper.upon]
  exact hK.out _ _ hS (fun _ => h)
/-- a store into a map -/
theorem anyH_mput {κ : Type} [DecidableEq κ] {k : TypeId} {kl : κ → Lit} {ok : κ → Prop} {b n : Nat} {f : κ → Option Value} {i : Nat} {oi : Oper} {fuel : Nat} {listed : Array Bool} {a : Act} {w : World} (d : Option Tmp) (hi : ops[i]? = some oi) (hd : oi.dst = d)
    (hr : Region.ready md ops listed = [i]) (hw : Region.wanted oi (yielded ops a.tmps) = true) (m y v : Operand) (t : TypeId) (hop : oi.op = Op.mapUpdate t m y v) {e : TypeId} (h : MapIs P k kl ok w b n f) (K : Keyed P k) (ht : P.underlying t = some (.map k e)) (hn : n < maxLen)
    (hm : a.eval m = .map (some b)) {key val : Value} {x : κ} (hy : a.eval y = key) (hv : a.eval v = val) (hx : ok x) (hkey : keyOf P k key = some (kl x)) (hinj : ∀ y, ok y → kl y = kl x → y = x)
    (hS : ∀ w', w.grownBy w' (some b) → S w')
    (hK : ∀ w', MapIs P k kl ok w' b (n + 1) (fun y => if y = x then some val else f y) → w.grownBy w' (some b) → wpAnyH P md ops Q S fuel (listed.setIfInBounds i true) (a.put d undef) w') : wpAnyH P md ops Q S (fuel + 1) listed a w := by
  subst hd
  refine anyH_do hi hr hw (fun K' hK' => ?_)
  obtain ⟨w', hrun, r1, r2⟩ := h.put K ht hn (v := val) hx hkey hinj
  unfold Oper.wp
  simp [execOp, hop, hm, hy, hv, hrun, Result.andThen]
  exact hK'.out _ _ (hS w' r2) (fun _ => hK w' r1 r2)
/-- a look into a map, in every world that meets S -/
theorem anyH_lookOk {κ : Type} {k : TypeId} {kl : κ → Lit} {ok : κ → Prop} {b n : Nat} {f : κ → Option Value} {i : Nat} {oi : Oper} {v : Value} {fuel : Nat} {listed : Array Bool} {a : Act} {w : World} (d : Option Tmp) (hi : ops[i]? = some oi) (hd : oi.dst = d)
    (hs : Region.noSelect ops = true) (hf : Region.free md ops listed i = true) (hr : (Region.ready md ops listed).contains i = true)
    (hQ : ∀ c a w, Q (.panic c) (a.put d v) w → Q (.panic c) a w) (hw : Region.wanted oi (yielded ops a.tmps) = true) (hS : S w)
    (m y : Operand) (t : TypeId) (hop : oi.op = Op.lookup t m y true) {e : TypeId} (h : ∀ w, S w → MapIs P k kl ok w b n f) (K : Keyed P k) (ht : P.underlying t = some (.map k e)) {z : Value} (hz : ∀ w, (zeroValue e).run P w = .ok z w)
    (hm : a.eval m = .map (some b)) {key : Value} {x : κ} (hy : a.eval y = key) (hx : ok x) (hkey : keyOf P k key = some (kl x)) (hv : .tuple #[(f x).getD z, .bool (f x).isSome] = v)
    (hK : wpAnyH P md ops Q S fuel (listed.setIfInBounds i true) (a.put d v) w) : wpAnyH P md ops Q S (fuel + 1) listed a w := by
  subst hv
  refine anyH_take d hi hd hs hf hr hQ hw hS (fun w' hS' => ?_) hK
  simp [execOp, hop, hm, hy, (h w' hS').lookOk K ht (hz w') hx hkey, Result.andThen]
/-- a call whose value is known in part -/
theorem anyH_callE {R : Value → World → Prop} {i : Nat} {oi : Oper} {fuel : Nat} {listed : Array Bool} {a : Act} {w : World} (d : Option Tmp) {f : FuncId} {args : Array Value} (hi : ops[i]? = some oi) (hd : oi.dst = d)
    (hr : Region.ready md ops listed = [i]) (hw : Region.wanted oi (yielded ops a.tmps) = true) (he : (execOp a.eval oi).run P w = .ok (.enter f args) w)
    (hc : Calls P f args w (fun e w' => ∃ v, e = .returned v ∧ S w' ∧ R v w'))
    (h : ∀ v w', S w' → R v w' → wpAnyH P md ops Q S fuel (listed.setIfInBounds i true) (a.put d v) w') : wpAnyH P md ops Q S (fuel + 1) listed a w := by
  subst hd
  refine wpAnyH_ready hr (by simp) (AllReadyH.cons hi (fun K hK => ?_) AllReadyH.nil)
  rw [if_pos hw]
  unfold Oper.wp
  rw [he]
  simp only [Oper.upon]
  refine hc.mono ?_
  rintro e w' ⟨v, rfl, hS', hR'⟩
  exact hK.out _ _ hS' (fun hh => h v w' hh hR')
end

end Go.Proofs.Ytpamkbbmbeeheaa
