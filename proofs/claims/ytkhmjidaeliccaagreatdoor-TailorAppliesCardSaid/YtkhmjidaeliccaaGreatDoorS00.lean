import Derived.IntWalk
import Derived.Lib.Hide
import Derived.Test.YtkhmjidaeliccaaGreatDoorProg
namespace Go.Proofs.YtkhmjidaeliccaaGreatDoor
open Go.RowKit
abbrev Oa:=Option Addr
abbrev Li:=List Int
abbrev Lv:=List Value
abbrev Wv:=World
abbrev By(w W:World):Prop:=Below w.heap.size w W
def Hi(p:Prop):Prop:=p
theorem Hi.o{p:Prop}(h:Hi p):p:=h
theorem Hi.out{p:Prop}(h:Hi p):p:=h
theorem G{p:Prop}(h:p):Hi p:=h
theorem U(p:Prop)(h:p):Hi p:=h
theorem hG_{p:Prop}(h:p):Hi p:=h
theorem hU_(p:Prop)(h:p):Hi p:=h
theorem exQ{α:Type}(a:α):∃r,a=r:=⟨a,rfl⟩
theorem sA{α:Type}{l:List α}{i:Nat}{a:α}:l.toArray.setIfInBounds i a=(l.set i a).toArray:=List.setIfInBounds_toArray ..
theorem sB{α:Type}{x:α}{l:List α}{a:α}:(x::l).set 0 a=a::l:=List.set_cons_zero
theorem sC{α:Type}{x:α}{l:List α}{n:Nat}{a:α}:(x::l).set (n+1) a=x::l.set n a:=List.set_cons_succ
theorem ba(w:World)(o:Obj):Below w.heap.size w (w.alloc o):=(Below.refl _ _).alloc (Nat.le_refl _) _
theorem tb{w a b:World}(h:Below w.heap.size w a)(g:Below a.heap.size a b):Below w.heap.size w b:=h.trans (g.mono h.size)
theorem O{p:Prop}(h:p:=by omega):p:=h
theorem oO_{p:Prop}(h:p:=by omega):p:=h
theorem L{p:Prop}(h:p:=by simp):p:=h
theorem oL_{p:Prop}(h:p:=by simp):p:=h
theorem Y{p:Prop}(h:p:=by go_simp;try rfl):p:=h
theorem oY_{p:Prop}(h:p:=by go_simp;try rfl):p:=h
theorem oS_{p:Prop}(h:p:=by go_simp):p:=h
theorem V{p:Prop}(h:p:=by decide):p:=h
theorem oV_{p:Prop}(h:p:=by decide):p:=h
theorem oK_{p:Prop}(h:p:=by kernel_rfl):p:=h
theorem oD_{p:Prop}(h:p:=by (try dsimp only);omega):p:=h
theorem oT_{p:Prop}(h:p:=by first|(simp <;> omega)|omega):p:=h
theorem oU_{p:Prop}(h:p:=by first|(simp;omega)|omega):p:=h
theorem oA_{p:Prop}(h:p:=by assumption):p:=h
theorem oN_{p:Prop}(h:p:=by go_num):p:=h
theorem oR_{p:Prop}(h:p:=by rfl):p:=h
theorem oQ_{p:Prop}(h:p:=by trivial):p:=h
theorem oI_{p:Prop}(h:p:=by simp[intOf];omega):p:=h
end Go.Proofs.YtkhmjidaeliccaaGreatDoor
