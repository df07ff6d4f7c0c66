/- An append to an owned row, as a step of a region that draws its order. No program in sight. -/
import Derived.Test.YtpamkbbmbeeheaaWords
import Derived.Deep.AppendLies
namespace Go.Proofs.Ytpamkbbmbeeheaa
open Go.RowKit
variable {P : Program} {w : World}

theorem step_app {ops : Array Oper} {o : Oper} {a : Act} {K : Act → World → Prop} {Q : Exit → Act → World → Prop} {E : Prop} (hgd : o.guard = none) (s x : Operand) (t e : TypeId) (z : Value) (size bytes : Nat)
    (ho : o.op = .call { callee := .builtin .append, args := #[s, x], argTypes := #[t, t] }) (ht : P.underlying t = some (.slice e))
    (hinfo : (P.info? e).map (fun i => (i.zero, i.size, i.bytes)) = some (some z, size, bytes)) (hzs : z.cells.size = size) (hsz : 0 < size) (hby : 0 < bytes)
    {base : Nat} {A : Option Addr} {n c : Nat} {xs : List Value} (hs : a.eval s = .slice A n c) (hown : w.ownsRow base e size (.slice A n c) n xs)
    {A' : Option Addr} {m c' : Nat} {news : List Value} (hx : a.eval x = .slice A' m c') (hr : Sl w A' news) (hl : news.length = m * size) (h1 : ∀ u ∈ news, u.oneCell' = true)
    (hlim : (n + m) * bytes ≤ 140737488355328) (hbase : base ≤ w.heap.size)
    (h : ∀ B k w', w'.ownsRow base e size (.slice B (n + m) k) (n + m) (xs ++ news) → n + m ≤ k → Below base w w' → w.grownBy w' (Value.ownBlock (.slice A n c)) → (B = A ∨ B = some ⟨w.heap.size, 0, none⟩) →
      K (a.put o.dst (.slice B (n + m) k)) w') : if Region.wanted o (yielded ops a.tmps) = true then Oper.wp P o a w K Q else E := by
  have hw : Region.wanted o (yielded ops a.tmps) = true := by simp [Region.wanted, hgd]
  rw [if_pos hw]
  obtain ⟨B, k, w', hrun, h2, h3, h4, h5, h6⟩ := run_app (P := P) t o.type e z size bytes ht hinfo hzs hsz hby hown (c' := c') hr hl h1 hlim hbase
  unfold Oper.wp execOp
  simp only [ho, resolve, invoke, builtin, Sem.run_bind, Sem.run_pure, Result.andThen_ok, List.map_toArray, List.map_cons, List.map_nil, hs, hx, hrun]
  exact h B k w' h2 h3 h4 h5 h6

end Go.Proofs.Ytpamkbbmbeeheaa
