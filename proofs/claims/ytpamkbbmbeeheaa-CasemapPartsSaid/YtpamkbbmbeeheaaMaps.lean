/- Maps as partial functions from keys to values, whatever the elements are: made, looked into, stored into. No program in sight. -/
import Derived.Test.YtpamkbbmbeeheaaWords
import Derived.Maps.OwnSet
import Derived.Maps.OwnOps
namespace Go.Proofs.Ytpamkbbmbeeheaa
open Go.RowKit Go.Maps Go.WideMaps

/-- an element reads as itself -/
def elemV (v : Value) : Option (DataW Value × List MemPlace) := some (.held v, [])

/-- block b holds a map that gives f x at the key x, for every x that is allowed -/
def MapIs {κ : Type} (P : Program) (k : TypeId) (kl : κ → Lit) (ok : κ → Prop) (w : World) (b n : Nat) (f : κ → Option Value) : Prop :=
  ∃ D : DataW Value, w.ownsMap P k elemV b n D ∧ ∀ x, ok x → Maps.has D (kl x) = (f x).isSome ∧ ∀ z, D.atKey (kl x) (.held z) = .held ((f x).getD z)

section
variable {κ : Type} {P : Program} {k : TypeId} {kl : κ → Lit} {ok : κ → Prop} {w w' : World} {b n : Nat} {f : κ → Option Value}

theorem MapIs.made (P : Program) (k : TypeId) (kl : κ → Lit) (ok : κ → Prop) (w : World) : MapIs P k kl ok (w.alloc (.map #[] 0)) w.heap.size 0 (fun _ => none) :=
  ⟨.map [], World.ownsMap_made w P k elemV, fun _ _ => ⟨rfl, fun _ => rfl⟩⟩

theorem MapIs.lt (h : MapIs P k kl ok w b n f) : b < w.heap.size := h.elim fun _ h => h.1.lt
theorem MapIs.kept {row : Option Nat} (h : MapIs P k kl ok w b n f) (hg : w.grownBy w' row) (hne : some b ≠ row) : MapIs P k kl ok w' b n f := by
  obtain ⟨D, h1, h2⟩ := h
  exact ⟨D, h1.kept hg hne, h2⟩
theorem MapIs.below (h : MapIs P k kl ok w b n f) (hb : Below w.heap.size w w') : MapIs P k kl ok w' b n f :=
  h.kept (row := none) ⟨hb.os, hb.tape, hb.output, hb.size, fun k hk _ => hb.block k hk⟩ (by simp)
theorem MapIs.alloc (h : MapIs P k kl ok w b n f) (o : Obj) : MapIs P k kl ok (w.alloc o) b n f := h.below ((Below.refl _ _).alloc (Nat.le_refl _) _)
theorem MapIs.mono (h : MapIs P k kl ok w b n f) {m : Nat} (hm : n ≤ m) : MapIs P k kl ok w b m f := by
  obtain ⟨D, h1, h2⟩ := h
  exact ⟨D, h1.mono hm, h2⟩
theorem MapIs.ext (h : MapIs P k kl ok w b n f) {g : κ → Option Value} (hg : ∀ x, ok x → g x = f x) : MapIs P k kl ok w b n g := by
  obtain ⟨D, h1, h2⟩ := h
  exact ⟨D, h1, fun x hx => by rw [hg x hx]; exact h2 x hx⟩

theorem MapIs.look {t e : TypeId} (h : MapIs P k kl ok w b n f) (K : Keyed P k) (ht : P.underlying t = some (.map k e)) {z : Value} (hz : (zeroValue e).run P w = .ok z w) {key : Value} {x : κ} (hx : ok x) (hkey : keyOf P k key = some (kl x)) :
    (Instr.lookup t (.map (some b)) key false).run P w = .ok ((f x).getD z) w := by
  obtain ⟨D, h1, h2⟩ := h
  obtain ⟨v, ps, hrun, hv⟩ := h1.lookup K ht hz (zd := .held z) (zp := []) rfl hkey
  rw [(h2 x hx).2] at hv
  simp only [elemV, Option.some.injEq, Prod.mk.injEq, DataW.held.injEq] at hv
  rw [hrun, hv.1]

theorem MapIs.lookOk {t e : TypeId} (h : MapIs P k kl ok w b n f) (K : Keyed P k) (ht : P.underlying t = some (.map k e)) {z : Value} (hz : (zeroValue e).run P w = .ok z w) {key : Value} {x : κ} (hx : ok x) (hkey : keyOf P k key = some (kl x)) :
    (Instr.lookup t (.map (some b)) key true).run P w = .ok (.tuple #[(f x).getD z, .bool (f x).isSome]) w := by
  obtain ⟨D, h1, h2⟩ := h
  obtain ⟨v, ps, hrun, hv⟩ := h1.look_ok K ht hz (zd := .held z) (zp := []) rfl hkey
  rw [(h2 x hx).2] at hv
  simp only [elemV, Option.some.injEq, Prod.mk.injEq, DataW.held.injEq] at hv
  rw [hrun, hv.1, (h2 x hx).1]

theorem MapIs.put [DecidableEq κ] {t e : TypeId} (h : MapIs P k kl ok w b n f) (K : Keyed P k) (ht : P.underlying t = some (.map k e)) (hn : n < maxLen) {key v : Value} {x : κ} (hx : ok x) (hkey : keyOf P k key = some (kl x))
    (hinj : ∀ y, ok y → kl y = kl x → y = x) :
    ∃ w', (Instr.mapUpdate t (.map (some b)) key v).run P w = .ok () w' ∧ MapIs P k kl ok w' b (n + 1) (fun y => if y = x then some v else f y) ∧ w.grownBy w' (some b) := by
  obtain ⟨D, h1, h2⟩ := h
  obtain ⟨w', hrun, r1, r2⟩ := h1.update K ht hn hkey (val := v) (d := .held v) (ps := []) rfl
  refine ⟨w', hrun, ⟨_, r1, fun y hy => ?_⟩, r2⟩
  dsimp only
  by_cases e : y = x
  · subst e
    rw [if_pos rfl]
    exact ⟨by rw [has_put_same h1.isMap (K.key hkey)]; rfl, fun z => atKey_put_same h1.isMap (K.key hkey) _ _⟩
  · rw [if_neg e]
    have hne : kl y ≠ kl x := fun e' => e (hinj y hy e')
    rw [has_put_other hne]
    exact ⟨(h2 y hy).1, fun z => (atKey_put_other hne _ _).trans ((h2 y hy).2 z)⟩
end

section
variable {κ : Type} {P : Program} {w : World} {ops : Array Oper} {rest : List Oper} {o : Oper} {a : Act} {Q : Exit → Act → World → Prop}
variable {k : TypeId} {kl : κ → Lit} {ok : κ → Prop} {b n : Nat} {f : κ → Option Value}

theorem wpList_look (hg : o.guard = none) (m y : Operand) (t : TypeId) (hop : o.op = Op.lookup t m y false) {e : TypeId} (h : MapIs P k kl ok w b n f) (K : Keyed P k) (ht : P.underlying t = some (.map k e)) {z : Value} (hz : (zeroValue e).run P w = .ok z w)
    (hm : a.eval m = .map (some b)) {key : Value} {x : κ} (hy : a.eval y = key) (hx : ok x) (hkey : keyOf P k key = some (kl x))
    (hK : wpList P ops Q rest (a.put o.dst ((f x).getD z)) w) : wpList P ops Q (o :: rest) a w := by
  refine wpList_plain hg fun K' hK' => ?_
  unfold Oper.wp
  simp [execOp, hop, hm, hy, h.look K ht hz hx hkey, Result.andThen]
  exact hK' _ _ hK

theorem wpList_lookOk (hg : o.guard = none) (m y : Operand) (t : TypeId) (hop : o.op = Op.lookup t m y true) {e : TypeId} (h : MapIs P k kl ok w b n f) (K : Keyed P k) (ht : P.underlying t = some (.map k e)) {z : Value} (hz : (zeroValue e).run P w = .ok z w)
    (hm : a.eval m = .map (some b)) {key : Value} {x : κ} (hy : a.eval y = key) (hx : ok x) (hkey : keyOf P k key = some (kl x))
    (hK : wpList P ops Q rest (a.put o.dst (.tuple #[(f x).getD z, .bool (f x).isSome])) w) : wpList P ops Q (o :: rest) a w := by
  refine wpList_plain hg fun K' hK' => ?_
  unfold Oper.wp
  simp [execOp, hop, hm, hy, h.lookOk K ht hz hx hkey, Result.andThen]
  exact hK' _ _ hK

theorem wpList_mput [DecidableEq κ] (hg : o.guard = none) (m y v : Operand) (t : TypeId) (hop : o.op = Op.mapUpdate t m y v) {e : TypeId} (h : MapIs P k kl ok w b n f) (K : Keyed P k) (ht : P.underlying t = some (.map k e)) (hn : n < maxLen)
    (hm : a.eval m = .map (some b)) {key val : Value} {x : κ} (hy : a.eval y = key) (hv : a.eval v = val) (hx : ok x) (hkey : keyOf P k key = some (kl x)) (hinj : ∀ y, ok y → kl y = kl x → y = x)
    (hK : ∀ w', MapIs P k kl ok w' b (n + 1) (fun y => if y = x then some val else f y) → w.grownBy w' (some b) → wpList P ops Q rest (a.put o.dst undef) w') : wpList P ops Q (o :: rest) a w := by
  refine wpList_plain hg fun K' hK' => ?_
  obtain ⟨w', hrun, r1, r2⟩ := h.put K ht hn (v := val) hx hkey hinj
  unfold Oper.wp
  simp [execOp, hop, hm, hy, hv, hrun, Result.andThen]
  exact hK' _ _ (hK w' r1 r2)
end

theorem wf_small {z : Int} (h1 : -9223372036854775808 ≤ z) (h2 : z ≤ 9223372036854775807) : (Lit.int .i64 z).wf = true := by
  simp only [Lit.wf, Bool.and_eq_true, decide_eq_true_eq]
  exact ⟨h1, h2⟩
theorem below_grown {B : Nat} {a w w' : World} {g : Nat} (h : Below B a w) (hg : w.grownBy w' (some g)) (hb : B ≤ g) (hs : B ≤ w.heap.size) : Below B a w' :=
  h.grown hg hs fun k e => by injection e with e; omega

/-- keys that are strings -/
def skey (s : ByteArray) : Lit := .string s.data.toList
def sok (s : ByteArray) : Prop := s.size ≤ maxLen
theorem skey_inj {s t : ByteArray} (h : skey s = skey t) : s = t := by
  injection h with h
  cases s; cases t
  simp only [ByteArray.mk.injEq]
  exact Array.toList_inj.1 h

abbrev MapS (P : Program) (k : TypeId) (w : World) (b n : Nat) (f : ByteArray → Option Value) : Prop := MapIs P k skey sok w b n f

end Go.Proofs.Ytpamkbbmbeeheaa
