import Derived.Lib.Hide
import Derived.Test.YtkhmjidaeliccaaGreatDoorProg
namespace Go.Proofs.YtkhmjidaeliccaaGreatDoor
open Go.RowKit
abbrev Oa:=Option Addr
abbrev Li:=List Int
abbrev Lv:=List Value
abbrev Wv:=World
abbrev By(w W:World):Prop:=Below w.heap.size w W
theorem G{p:Prop}(h:p):RowKit.Hid p:=h
theorem U(p:Prop)(h:p):RowKit.Hid p:=h
theorem sA{α:Type}{l:List α}{i:Nat}{a:α}:l.toArray.setIfInBounds i a=(l.set i a).toArray:=List.setIfInBounds_toArray ..
theorem sB{α:Type}{x:α}{l:List α}{a:α}:(x::l).set 0 a=a::l:=List.set_cons_zero
theorem sC{α:Type}{x:α}{l:List α}{n:Nat}{a:α}:(x::l).set (n+1) a=x::l.set n a:=List.set_cons_succ
theorem ba(w:World)(o:Obj):Below w.heap.size w (w.alloc o):=(Below.refl _ _).alloc (Nat.le_refl _) _
end Go.Proofs.YtkhmjidaeliccaaGreatDoor
