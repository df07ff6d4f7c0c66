/- Texts that are merged into one file: TlIns, TlInsA, MapC, SkWgt, SkKey, TlCopy. -/
import Derived.Test.YtkhmjidaeliccaaGreatDoorA02
import Derived.Test.YtkhmjidaeliccaaGreatDoorA08
import Derived.Test.YtkhmjidaeliccaaGreatDoorA12
import Derived.Test.YtkhmjidaeliccaaGreatDoorA15
import Derived.Test.YtkhmjidaeliccaaGreatDoorA16
import Derived.Shelf.Spec.SlicesInsertGrow
import Derived.Deep.Cut
set_option maxRecDepth 100000
set_option maxHeartbeats 51200000
namespace Go.Proofs.YtkhmjidaeliccaaGreatDoor
open Go.Shelf Go.RowKit Go.Lib
theorem info_ent:(Tryz.prog.info? 75).map (fun i=>(i.zero,i.size,i.bytes))=some (some (.agg #[.slice none 0 0,.slice none 0 0]),2,48):=by kernel_rfl
theorem size_ent:(Tryz.prog.info? 75).map (·.size)=some 2:=by kernel_rfl
theorem run_copy_k {P:Program} (k:Nat) (w:World) (dT sT ty elem:TypeId) (b o dLen dCap:Nat) (a:Addr) (sLen sCap:Nat) (cs:List Value)
  (hu:P.underlying dT=some (.slice elem)) (hs:(P.info? elem).map (·.size)=some k) (hn:cs.length=Nat.min sLen dLen*k)
  (hsrc:∀j v,cs[j]?=some v→w.cell? (a.add j)=some v) (hc:∀j,j < cs.length→(w.cell? ⟨b,o+j,none⟩).isSome=true) (hf:∀j,j < cs.length→w.frozen? ⟨b,o+j,none⟩=false) (h1:∀v ∈ cs,v.oneCell'=true) :
  (Builtin.copy_ #[dT,sT] ty #[.slice (some ⟨b,o,none⟩) dLen dCap,.slice (some a) sLen sCap]).run P w=.ok (goInt (Nat.min sLen dLen)) (w.setCells b o cs):=by
 have hl:=run_loadCells_list (P:=P) w a cs hsrc
 have hst:=run_storeCells_cells (P:=P) b o cs 0 w (by simpa using hc) (by simpa using hf) h1
 cases hq:P.info? elem with
 | none=>simp [hq] at hs
 | some i=>
  have hi:i.size=k:=by simpa [hq] using hs
  rw [hn] at hl
  simp [Builtin.copy_,run_underlying hu,Builtin.lenOf,Builtin.firstCells,sizeOf,typeInfo,hq,hi,hl,hst]
theorem insE_shift (b n c i vb vc:Nat) (cs vs:List Value) (w:World) (hi:i < n) (hroom:n+1≤c) (hc63:c≤9223372036854775807) (hn:n≤1099511627776) (hvb:vb≠b)
  (hcl:cs.length=n*2) (hvl:vs.length=2)
  (hcs:∀j v,cs[j]?=some v→w.cell? ⟨b,j,none⟩=some v) (hsp:∀j,j < (n+1)*2→(w.cell? ⟨b,j,none⟩).isSome=true) (hfz:∀j,w.frozen? ⟨b,j,none⟩=false)
  (hvs:∀j v,vs[j]?=some v→w.cell? ⟨vb,j,none⟩=some v) (h1c:∀v ∈ cs,v.oneCell'=true) (h1v:∀v ∈ vs,v.oneCell'=true)
  (tA tB:TypeId) (kA kB:Nat) (hsa:w.shape? vb=some (tA,kA)) (hsb:w.shape? b=some (tB,kB)) (hkB:kB≠0) (hfa:w.frozen? ⟨vb,0,none⟩=false) (hfe:w.frozen? ⟨vb,kA,none⟩=false) :
  Calls Tryz.prog 87 #[.slice (some ⟨b,0,none⟩) n c,.int .i64 i,.slice (some ⟨vb,0,none⟩) 1 vc] w fun e w'=>
   e=.returned (.slice (some ⟨b,0,none⟩) (n+1) c)∧w'=(w.drew.setCells b ((i+1)*2) (cs.drop (i*2))).setCells b (i*2) vs:=by
 have mixed:Tryz.prog.follows Departure.mixedOrders=true:=by kernel_rfl
 have hz2:¬((i:Int)=(n:Int)):=by omega
 have hov:∀o lb cb,(callFunc 145 #[.slice (some ⟨vb,0,none⟩) 1 vc,.slice (some ⟨b,o,none⟩) lb cb]).run Tryz.prog w=.ok (.value (.bool false)) w:=fun o lb cb=>by
  rw [run_callFunc_extern Tryz.func145 (by kernel_rfl) (by kernel_rfl) (by kernel_rfl) (e:=Extern.SlicesOverlaps.overlaps #[29,29] #[4]) (by kernel_rfl),
   Lib.run_overlaps_apart w 29 4 75 Tryz.underlying29 2 Tryz.sizeOf75 ⟨vb,0,none⟩ ⟨b,o,none⟩ 1 vc lb cb hvb tA tB kA kB hsa hsb hkB hfa hfe]
  rfl
 have hdl:(cs.drop (i*2)).length=(n - i)*2:=by rw [List.length_drop,hcl];omega
 have hcp1:∀ty dc sc,(Builtin.copy_ #[29,29] ty #[.slice (some ⟨b,(i+1)*2,none⟩) (n - i) dc,.slice (some ⟨b,i*2,none⟩) (n+1 - i) sc]).run Tryz.prog w.drew=.ok (goInt (Nat.min (n+1 - i) (n - i))) (w.drew.setCells b ((i+1)*2) (cs.drop (i*2))):=fun ty dc sc=>
  run_copy_k 2 w.drew _ _ ty 75 b ((i+1)*2) (n - i) dc ⟨b,i*2,none⟩ (n+1 - i) sc (cs.drop (i*2)) Tryz.underlying29 size_ent (by rw [hdl];simp only [Nat.min_def];split <;> omega)
   (fun j v hj=>by rw [Addr.add_lit];exact hcs (i*2+j) v (by rwa [List.getElem?_drop] at hj))
   (fun j hj=>hsp _ (by rw [hdl] at hj;omega)) (fun j hj=>hfz _) (fun v hv=>h1c v (List.mem_of_mem_drop hv))
 obtain ⟨W1,hW1⟩:∃W1,W1=w.drew.setCells b ((i+1)*2) (cs.drop (i*2)):=⟨_,rfl⟩
 have hsp1:∀k,k < (n+1)*2→(W1.cell? ⟨b,k,none⟩).isSome=true:=fun k hk=>by
  rw [hW1]
  exact isSome_setCells b (cs.drop (i*2)) ((i+1)*2) w.drew (fun j hj=>hsp _ (by rw [hdl] at hj;omega)) k (hsp k hk)
 have hcp2:∀ty dc,(Builtin.copy_ #[29,29] ty #[.slice (some ⟨b,i*2,none⟩) (n+1 - i) dc,.slice (some ⟨vb,0,none⟩) 1 vc]).run Tryz.prog W1=.ok (goInt (Nat.min 1 (n+1 - i))) (W1.setCells b (i*2) vs):=fun ty dc=>
  run_copy_k 2 W1 _ _ ty 75 b (i*2) (n+1 - i) dc ⟨vb,0,none⟩ 1 vc vs Tryz.underlying29 size_ent (by rw [hvl];simp only [Nat.min_def];split <;> omega)
   (fun j v hj=>by
    rw [Addr.add_lit,hW1,World.cell?_setCells_out b _ _ _ _ (fun h _=>absurd h hvb),Nat.zero_add]
    exact hvs j v hj)
   (fun j hj=>hsp1 _ (by omega)) (fun j hj=>by rw [hW1,World.frozen?_setCells];exact hfz _) h1v
 rw [←hW1] at hcp1 ⊢
 clear hW1 hsp1 hcs hsp hfz hvs hsa hsb hfa hfe hdl
 have hw1:IntKind.i64.wrap ((i:Int)+1)=(i:Int)+1:=by rw [IntKind.wrap_i64];omega
 have hb1:(0:Int)≤(i:Int)+1:=by omega
 have htn:((i:Int)+1).toNat=i+1:=by omega
 have hle1:(i:Int)+1≤(n:Int)+1:=by omega
 have hle2:(i:Int)≤(n:Int)+1:=by omega
 have hin:i≤n:=by omega
 have hb2:¬(c=i+1):=by omega
 have hb4:¬(c=i):=by omega
 go_enter Tryz.func87,Tryz.ntmps87
 go_wp2_with (simp only [hov])
 go_region_law_o (refine step_copy_runI rfl _ _ 29 29 rfl _ _ (by simp [Act.eval,Act.put]) (by simp [Act.eval,Act.put]) (hcp1 _ _ _) ?_)
 go_wp2_with (at_builtin;refine wpList_copy_runI _ rfl _ _ 29 29 rfl _ _ rfl rfl (hcp2 _ _) ?_)
 go_ret
 exact ⟨rfl,rfl⟩
theorem insE_grow (b n c i vb vc:Nat) (cs vs:List Value) (w:World) (hi:i < n) (hnc:n≤c) (hroom:c < n+1) (hn:n≤1048576) (hbw:b < w.heap.size) (hvw:vb < w.heap.size)
  (hcl:cs.length=n*2) (hvl:vs.length=2)
  (hcs:∀j v,cs[j]?=some v→w.cell? ⟨b,j,none⟩=some v)
  (hvs:∀j v,vs[j]?=some v→w.cell? ⟨vb,j,none⟩=some v) (h1c:∀v ∈ cs,v.oneCell'=true) (h1v:∀v ∈ vs,v.oneCell'=true) :
  Calls Tryz.prog 87 #[.slice (some ⟨b,0,none⟩) n c,.int .i64 i,.slice (some ⟨vb,0,none⟩) 1 vc] w fun e w'=>
   ∃ROW:Array Value,n+1≤grownCap w (n+1) c 75∧grownCap w (n+1) c 75≤maxLen∧ROW.size=grownCap w (n+1) c 75*2∧ROW.toList.take (i*2)=cs.take (i*2)∧e=.returned (.slice (some ⟨w.heap.size,0,none⟩) (n+1) (grownCap w (n+1) c 75))∧
   w'=(((w.alloc (.cells ROW 75)).drew.setCells w.heap.size (i*2) vs).drew).setCells w.heap.size ((i+1)*2) (cs.drop (i*2)):=by
 obtain ⟨i0,hi0,hz0,hzs,hzb⟩:=info_parts info_ent
 have mixed:Tryz.prog.follows Departure.mixedOrders=true:=by kernel_rfl
 have hz2:¬((i:Int)=(n:Int)):=by omega
 have hz3:(c:Int) < (n:Int)+1:=by omega
 have hkk:(n:Int)+1 - (i:Int)=((n+1 - i:Nat):Int):=by omega
 have hik:i+(n+1 - i)=n+1:=by omega
 have hold:(Builtin.firstCells i0.size i (.slice (some ⟨b,0,none⟩) i c)).run Tryz.prog w.drew=.ok (cs.take (i*2)).toArray w.drew:=by
  rw [hzs]
  exact run_firstCells_some w.drew 2 i ⟨b,0,none⟩ i c (cs.take (i*2)) (by rw [List.length_take];omega) (fun j v hj=>by
   rw [Addr.add_lit,Nat.zero_add]
   rw [List.getElem?_take] at hj
   split at hj
   ·exact hcs j v hj
   ·cases hj)
 have hrz:∀ty,(Builtin.append_ #[29,3] ty #[.slice (some ⟨b,0,none⟩) i c,.int .i64 ((n:Int)+1 - (i:Int))]).run Tryz.prog w =
   .ok (.slice (some ⟨w.heap.size,0,none⟩) (n+1) (grownCap w (n+1) c 75)) (w.drew.alloc (.cells ((cs.take (i*2)).toArray++Builtin.zeroCells (Value.agg #[.slice none 0 0,.slice none 0 0]).cells (n+1 - i)++Builtin.zeroCells (Value.agg #[.slice none 0 0,.slice none 0 0]).cells (grownCap w (n+1) c 75 - (n+1))) 75)):=fun ty=>by
  have h:=Lib.run_append_grow_zeros w 29 3 ty 75 i0 _ .i64 .i64 Tryz.underlying29 Tryz.underlying3 hi0 hz0 (some ⟨b,0,none⟩) i c (cs.take (i*2)) hold (n+1 - i) (by omega) (by omega) (by omega) (by omega) (by rw [hzb];omega) (by rw [hzb,hik];exact growslice_fits hroom (by omega))
  rw [hik] at h
  rw [hkk]
  exact h
 have hGn:n+1≤grownCap w (n+1) c 75:=grownCap_ge w _ _ _
 have hGm:=grownCap_le_maxLen w (n+1) c 75 (by unfold maxLen;omega)
 obtain ⟨G,hG⟩:∃G,G=grownCap w (n+1) c 75:=⟨_,rfl⟩
 rw [←hG] at hrz hGn hGm ⊢
 have hzc:(Value.agg #[.slice none 0 0,.slice none 0 0]).cells.size=2:=rfl
 obtain ⟨ROW,hROW⟩:∃ROW:Array Value,ROW=(cs.take (i*2)).toArray++Builtin.zeroCells (Value.agg #[.slice none 0 0,.slice none 0 0]).cells (n+1 - i)++Builtin.zeroCells (Value.agg #[.slice none 0 0,.slice none 0 0]).cells (G - (n+1)):=⟨_,rfl⟩
 rw [←hROW] at hrz
 have hRl:ROW.size=G*2:=by
  have e1:=size_zeroCells (Value.agg #[.slice none 0 0,.slice none 0 0]).cells (n+1 - i)
  have e2:=size_zeroCells (Value.agg #[.slice none 0 0,.slice none 0 0]).cells (G - (n+1))
  rw [hzc] at e1 e2
  rw [hROW,Array.size_append,Array.size_append,e1,e2]
  simp
  omega
 have hRt:ROW.toList.take (i*2)=cs.take (i*2):=by
  rw [hROW,Array.toList_append,Array.toList_append,List.append_assoc,List.take_append_of_le_length (by simp;omega),List.take_of_length_le (by simp;omega)]
 obtain ⟨W1,hW1⟩:∃W1,W1=w.drew.alloc (.cells ROW 75):=⟨_,rfl⟩
 rw [←hW1] at hrz
 have hN:∀j,j < (n+1)*2→(W1.cell? ⟨w.heap.size,j,none⟩).isSome=true:=fun j hj=>by
  rw [hW1,World.cell?_alloc_at (w:=w.drew) ROW _ w.heap.size j rfl,Array.getElem?_eq_getElem (by omega)];rfl
 have hNf:∀j,W1.frozen? ⟨w.heap.size,j,none⟩=false:=fun j=>by rw [hW1];exact World.frozen?_alloc_at (w:=w.drew) ROW _ w.heap.size j rfl
 have hOb:∀j v,w.cell? ⟨b,j,none⟩=some v→W1.cell? ⟨b,j,none⟩=some v:=fun j v h=>by rw [hW1,World.cell?_alloc_past (w:=w.drew) _ b j hbw];exact h
 have hOv:∀j v,w.cell? ⟨vb,j,none⟩=some v→W1.cell? ⟨vb,j,none⟩=some v:=fun j v h=>by rw [hW1,World.cell?_alloc_past (w:=w.drew) _ vb j hvw];exact h
 have hcpA:∀(W:World),(∀x,W.cell? x=W1.cell? x)→(∀x,W.frozen? x=W1.frozen? x)→∀ty dc,(Builtin.copy_ #[29,29] ty #[.slice (some ⟨w.heap.size,i*2,none⟩) (n+1 - i) dc,.slice (some ⟨vb,0,none⟩) 1 vc]).run Tryz.prog W=.ok (goInt (Nat.min 1 (n+1 - i))) (W.setCells w.heap.size (i*2) vs):=fun W hWc hWf ty dc=>
  run_copy_k 2 W _ _ ty 75 w.heap.size (i*2) (n+1 - i) dc ⟨vb,0,none⟩ 1 vc vs Tryz.underlying29 size_ent (by rw [hvl];simp only [Nat.min_def];split <;> omega)
   (fun j v hj=>by rw [Addr.add_lit,hWc,Nat.zero_add];exact hOv _ v (hvs j v hj))
   (fun j hj=>by rw [hWc];exact hN _ (by omega)) (fun j hj=>by rw [hWf];exact hNf _) h1v
 have hG63:G≤9223372036854775807:=by unfold maxLen at hGm;omega
 have hGi:¬(G=i):=by omega
 have hGim:¬(G=i+1):=by omega
 have hci:¬(c=i):=by omega
 have hbN:b≠w.heap.size:=by omega
 have hdl:(cs.drop (i*2)).length=(n - i)*2:=by rw [List.length_drop,hcl];omega
 have hcpB:∀(W:World),(∀x,W.cell? x=(W1.setCells w.heap.size (i*2) vs).cell? x)→(∀x,W.frozen? x=(W1.setCells w.heap.size (i*2) vs).frozen? x)→∀ty dc sc,(Builtin.copy_ #[29,29] ty #[.slice (some ⟨w.heap.size,(i+1)*2,none⟩) (n - i) dc,.slice (some ⟨b,i*2,none⟩) (n - i) sc]).run Tryz.prog W=.ok (goInt (Nat.min (n - i) (n - i))) (W.setCells w.heap.size ((i+1)*2) (cs.drop (i*2))):=fun W hWc hWf ty dc sc=>
  run_copy_k 2 W _ _ ty 75 w.heap.size ((i+1)*2) (n - i) dc ⟨b,i*2,none⟩ (n - i) sc (cs.drop (i*2)) Tryz.underlying29 size_ent (by rw [hdl];simp only [Nat.min_def];split <;> omega)
   (fun j v hj=>by
    rw [Addr.add_lit,hWc,World.cell?_setCells_out _ _ _ _ _ (fun h _=>absurd h hbN)]
    exact hOb _ v (hcs (i*2+j) v (by rwa [List.getElem?_drop] at hj)))
   (fun j hj=>by rw [hdl] at hj;rw [hWc];exact isSome_setCells _ _ _ _ (fun t ht=>hN _ (by omega)) _ (hN _ (by omega)))
   (fun j hj=>by rw [hWf,World.frozen?_setCells];exact hNf _) (fun v hv=>h1c v (List.mem_of_mem_drop hv))
 subst hW1
 have hE1:∀x,((w.alloc (.cells ROW 75)).drew).cell? x=(w.drew.alloc (.cells ROW 75)).cell? x:=fun x=>rfl
 have hE2:∀x,((w.alloc (.cells ROW 75)).drew).frozen? x=(w.drew.alloc (.cells ROW 75)).frozen? x:=fun x=>rfl
 have hF1:∀x,(((w.alloc (.cells ROW 75)).drew.setCells w.heap.size (i*2) vs).drew).cell? x=((w.drew.alloc (.cells ROW 75)).setCells w.heap.size (i*2) vs).cell? x:=fun x=>rfl
 have hF2:∀x,(((w.alloc (.cells ROW 75)).drew.setCells w.heap.size (i*2) vs).drew).frozen? x=((w.drew.alloc (.cells ROW 75)).setCells w.heap.size (i*2) vs).frozen? x:=fun x=>rfl
 have HEND:=Lib.hid (fun e' w' (h1:e'=Ending.returned (.slice (some ⟨w.heap.size,0,none⟩) (n+1) G)) (h2:w'=(((w.alloc (.cells ROW 75)).drew.setCells w.heap.size (i*2) vs).drew).setCells w.heap.size ((i+1)*2) (cs.drop (i*2)))=>show ∃ROW:Array Value,n+1≤G∧G≤maxLen∧ROW.size=G*2∧ROW.toList.take (i*2)=cs.take (i*2)∧e'=.returned (.slice (some ⟨w.heap.size,0,none⟩) (n+1) G)∧w'=(((w.alloc (.cells ROW 75)).drew.setCells w.heap.size (i*2) vs).drew).setCells w.heap.size ((i+1)*2) (cs.drop (i*2)) from ⟨ROW,hGn,hGm,hRl,hRt,h1,h2⟩)
 have hw1:IntKind.i64.wrap ((i:Int)+1)=(i:Int)+1:=by rw [IntKind.wrap_i64];omega
 have hb1:(0:Int)≤(i:Int)+1:=by omega
 have htn:((i:Int)+1).toNat=i+1:=by omega
 have hle1:(i:Int)+1≤(n:Int)+1:=by omega
 have hle2:(i:Int)≤(n:Int)+1:=by omega
 have hin:i≤n:=by omega
 have hb3:(i:Int)≤(n:Int):=by omega
 clear hkk hik hold hROW hG hRl hRt hzs hzb hz0 hi0 hzc hdl hcl hvl hcs hvs
 go_enter Tryz.func87,Tryz.ntmps87
 go_wp2_with (first
  | (at_builtin;refine Lib.wpList_append_run _ rfl _ _ _ _ rfl _ _ rfl rfl _ _ (hrz _) ?_)
  | (at_builtin;refine wpList_copy_runI _ rfl _ _ 29 29 rfl _ _ rfl rfl (hcpA _ hE1 hE2 _ _) ?_)
  | (at_builtin;refine wpList_copy_runI _ rfl _ _ 29 29 rfl _ _ rfl rfl (hcpB _ (fun _=>rfl) (fun _=>rfl) _ _ _) ?_))
 go_region_law_o (refine step_copy_runI rfl _ _ 29 29 rfl (.slice (some ⟨w.heap.size,(i+1)*2,none⟩) (n - i) (G - (i+1))) (.slice (some ⟨b,i*2,none⟩) (n - i) (c - i)) (by simp [Act.eval,Act.put]) (by simp [Act.eval,Act.put]) (hcpB _ hF1 hF2 3 (G - (i+1)) (c - i)) ?_)
 go_wp2
 go_ret
 exact HEND.out _ _ rfl rfl
end Go.Proofs.YtkhmjidaeliccaaGreatDoor
namespace Go.Proofs.YtkhmjidaeliccaaGreatDoor
open Go.Shelf Go.RowKit Go.Lib
theorem ins_spl {L D vs:List Value} {p N k:Nat} (hD:D.length=N) (hL:L.take N=D) (hl:N+k≤L.length) (hp:p≤N) (hk:vs.length=k):(splice (splice L (p+k) (D.drop p)) p vs).take (N+k)=D.take p++(vs++D.drop p)∧(splice (splice L (p+k) (D.drop p)) p vs).length=L.length:=by
 have h1:p+k+(D.drop p).length=N+k:=by rw [List.length_drop];omega
 have l1:(splice L (p+k) (D.drop p)).length=L.length:=length_splice _ _ _ (by omega)
 refine ⟨?_,by rw [length_splice _ _ _ (by rw [l1];omega),l1]⟩
 have ei:L.take p=D.take p:=by rw [←hL,List.take_take,Nat.min_eq_left hp]
 have e1:(splice L (p+k) (D.drop p)).take p=D.take p:=by
  unfold splice
  rw [List.take_append_of_le_length (by rw [List.length_take];omega),List.take_take,Nat.min_eq_left (by omega),ei]
 have e2:(splice L (p+k) (D.drop p)).drop (p+k)=D.drop p++L.drop (N+k):=by
  unfold splice
  rw [List.drop_append_of_le_length (by rw [List.length_take];omega),List.drop_of_length_le (by rw [List.length_take];omega),List.nil_append,h1]
 generalize splice L (p+k) (D.drop p)=X at *
 unfold splice
 rw [hk,e1,e2]
 have e:D.take p++(vs++(D.drop p++L.drop (N+k)))=(D.take p++(vs++D.drop p))++L.drop (N+k):=by simp
 have el:(D.take p++(vs++D.drop p)).length=N+k:=by simp [hD,hk];omega
 rw [e,List.take_append_of_le_length (by omega),List.take_of_length_le (by omega)]
theorem grow_spl {L D vs:List Value} {p N k:Nat} (hD:D.length=N) (hL:L.take p=D.take p) (hl:N+k≤L.length) (hp:p≤N) (hk:vs.length=k):(splice (splice L p vs) (p+k) (D.drop p)).take (N+k)=D.take p++(vs++D.drop p)∧(splice (splice L p vs) (p+k) (D.drop p)).length=L.length:=by
 have h1:p+k+(D.drop p).length=N+k:=by rw [List.length_drop];omega
 have l1:(splice L p vs).length=L.length:=length_splice _ _ _ (by omega)
 refine ⟨?_,by rw [length_splice _ _ _ (by omega),l1]⟩
 have e1:(splice L p vs).take (p+k)=D.take p++vs:=by
  unfold splice
  have el:(D.take p++vs).length=p+k:=by simp [hD,hk];omega
  rw [hL,←List.append_assoc,List.take_append_of_le_length (by omega),List.take_of_length_le (by omega)]
 generalize splice L p vs=X at *
 unfold splice
 have el:(D.take p++(vs++D.drop p)).length=N+k:=by simp [hD,hk];omega
 have e:D.take p++vs++(D.drop p++X.drop (p+k+(D.drop p).length))=(D.take p++(vs++D.drop p))++X.drop (p+k+(D.drop p).length):=by simp
 rw [e1,e,List.take_append_of_le_length (by omega),List.take_of_length_le (by omega)]
def insE {α:Type} (xs:List α) (i:Nat) (x:α):List α:=xs.take i++x::xs.drop i
theorem flatK_take {α:Type} (enc:α→List Value) (k:Nat) (hk:∀x,(enc x).length=k) (xs:List α) (i:Nat) (hi:i≤xs.length):(flatK enc xs).take (i*k)=flatK enc (xs.take i)∧(flatK enc xs).drop (i*k)=flatK enc (xs.drop i):=by
 have e:=flatK_append (enc:=enc) (xs.take i) (xs.drop i)
 rw [List.take_append_drop] at e
 have l:=flatK_len enc k hk (xs.take i)
 rw [List.length_take,Nat.min_eq_left hi] at l
 rw [e]
 exact ⟨by rw [List.take_append_of_le_length (by omega),List.take_of_length_le (by omega)],by rw [List.drop_append_of_le_length (by omega),List.drop_of_length_le (by omega),List.nil_append]⟩
theorem flatK_ins {α:Type} (enc:α→List Value) (k:Nat) (hk:∀x,(enc x).length=k) (xs:List α) (i:Nat) (hi:i≤xs.length) (x:α):flatK enc (insE xs i x)=(flatK enc xs).take (i*k)++(enc x++(flatK enc xs).drop (i*k)):=by
 obtain ⟨e1,e2⟩:=flatK_take enc k hk xs i hi
 rw [e1,e2]
 unfold insE
 rw [flatK_append]
 rfl
theorem own_of_boxK {w:World} {base g n c:Nat} {t:TypeId} {k:Nat} {L xs:List Value} (h:Box w g t L) (hb:base≤g) (hc:L.length=c*k) (hn:n≤c) (hm:c≤maxLen) (ht:L.take (n*k)=xs) (hx:xs.length=n*k):w.ownsRow base t k (.slice (some ⟨g,0,none⟩) n c) n xs:=
 ⟨hx,.inr ⟨g,c,L.toArray,rfl,hb,h,hn,hm,by simp [hc],by simpa using ht⟩⟩
def RetInsE (vs:List (Value × Value)) (i:Nat) (x:Value × Value) (base:Nat) (A:Option Addr) (w:World) (e:Ending) (w':World):Prop:=∃B k,e=.returned (.slice B (vs.length+1) k)∧w'.ownsRow base 75 2 (.slice B (vs.length+1) k) (vs.length+1) (flatK enC (insE vs i x))∧w.grownBy w' (blk A)∧(blk B=blk A∨blk B=some w.heap.size)
theorem insE_any (A:Option Addr) (n c base i:Nat) (ps:List (Value × Value)) (x:Value × Value) (vb vc:Nat) (w:World) (h:w.ownsRow base 75 2 (.slice A n c) n (flatK enC ps)) (hbase:base≤w.heap.size) (hn:ps.length=n) (hi:i≤n) (hv:Box w vb 75 [x.1,x.2]) (hvb:∀g,blk A=some g→vb≠g) (hb:n≤1048576) (h1c:∀v ∈ flatK enC ps,v.oneCell'=true) (h1v:x.1.oneCell'=true∧x.2.oneCell'=true) :
  Calls Tryz.prog 87 #[.slice A n c,.int .i64 i,.slice (some ⟨vb,0,none⟩) 1 vc] w (RetInsE ps i x base A w):=by
 subst hn
 have hvs:∀j v,[x.1,x.2][j]?=some v→w.cell? ⟨vb,j,none⟩=some v:=fun j v hj=>hv.cell hj
 have h1v':∀v ∈ [x.1,x.2],v.oneCell'=true:=by intro v hv;simp at hv;rcases hv with rfl | rfl;exact h1v.1;exact h1v.2
 have hcl:(flatK enC ps).length=ps.length*2:=flatK_len enC 2 (fun _=>rfl) ps
 have hil:(flatK enC (insE ps i x)).length=(ps.length+1)*2:=by
  rw [flatK_len enC 2 (fun _=>rfl)]
  unfold insE
  simp
  omega
 have hfl:=flatK_ins enC 2 (fun _=>rfl) ps i hi x
 by_cases hin:i < ps.length
 ·rcases h.2 with ⟨_,h0⟩ | ⟨g,cap,cur,hvv,h1,h2,h3,h4,h5,h6⟩
  ·omega
  injection hvv with hA _ hc
  subst hA;subst hc
  have hX:Box w g 75 cur.toList:=h2
  have hcl2:cur.toList.length=c*2:=by simpa using h5
  have hne:vb≠g:=hvb g rfl
  have hcs:∀j v,(flatK enC ps)[j]?=some v→w.cell? ⟨g,j,none⟩=some v:=fun j v hj=>by
   rw [←h6] at hj
   exact hX.cell (by rw [List.getElem?_take] at hj;split at hj;exact hj;cases hj)
  by_cases hroom:ps.length+1≤c
  ·have hsz:∀j,j < (ps.length+1)*2→(w.cell? ⟨g,j,none⟩).isSome=true:=fun j hj=>by rw [hX.cell (List.getElem?_eq_getElem (by omega))];rfl
   refine (insE_shift g ps.length c i vb vc (flatK enC ps) [x.1,x.2] w hin hroom (by unfold maxLen at h4;omega) (by omega) hne hcl rfl hcs hsz (fun j=>hX.free _) hvs h1c h1v' 75 75 2 (c*2) (by unfold Box at hv;simp [World.shape?,hv]) (by unfold Box at hX;simp [World.shape?,hX,h5]) (by omega) (hv.free _) (hv.free _)).mono ?_
   rintro e w' ⟨rfl,rfl⟩
   obtain ⟨s1,s2⟩:=ins_spl (vs:=[x.1,x.2]) (p:=i*2) (k:=2) hcl h6 (by omega) (by omega) rfl
   have hX1:Box w.drew g 75 cur.toList:=hX
   have hX2:=box_setCells ((flatK enC ps).drop (i*2)) ((i+1)*2) hX1 (by simp [hcl];omega)
   have hX3:=box_setCells [x.1,x.2] (i*2) hX2 (by rw [length_splice _ _ _ (by simp [hcl];omega)];simp;omega)
   rw [show (i+1)*2=i*2+2 by omega] at hX3 ⊢
   refine ⟨_,_,rfl,own_of_boxK hX3 h1 (by rw [s2,hcl2]) hroom h4 (by rw [show (ps.length+1)*2=ps.length*2+2 by omega,s1,hfl];rfl) hil,grown_setCells _ _ (grown_setCells _ _ (grownR_drew (grownR_refl w _))),.inl rfl⟩
  ·refine (insE_grow g ps.length c i vb vc (flatK enC ps) [x.1,x.2] w hin h3 (by omega) hb hX.lt hv.lt hcl rfl hcs hvs h1c h1v').mono ?_
   rintro e w' ⟨ROW,hG1,hG2,hR1,hR2,rfl,rfl⟩
   generalize grownCap w (ps.length+1) c 75=G at *
   have hX0:=Box.newA w 75 ROW
   have hl0:ROW.toList.length=G*2:=by simpa using hR1
   have hX1:Box (w.alloc (.cells ROW 75)).drew w.heap.size 75 ROW.toList:=hX0
   have hX2:=box_setCells [x.1,x.2] (i*2) hX1 (by rw [hl0];simp;omega)
   have hX3:Box ((w.alloc (.cells ROW 75)).drew.setCells w.heap.size (i*2) [x.1,x.2]).drew w.heap.size 75 _:=hX2
   have hX4:=box_setCells ((flatK enC ps).drop (i*2)) ((i+1)*2) hX3 (by rw [length_splice _ _ _ (by rw [hl0];simp;omega),hl0,List.length_drop,hcl];omega)
   obtain ⟨s1,s2⟩:=grow_spl (vs:=[x.1,x.2]) (L:=ROW.toList) (p:=i*2) (k:=2) hcl hR2 (by rw [hl0];omega) (by omega) rfl
   rw [show (i+1)*2=i*2+2 by omega] at hX4 ⊢
   refine ⟨_,_,rfl,own_of_boxK hX4 hbase (by rw [s2,hl0]) hG1 hG2 (by rw [show (ps.length+1)*2=ps.length*2+2 by omega,s1,hfl];rfl) hil,?_,.inr rfl⟩
   exact gr_setCells_new _ _ (grownR_drew (gr_setCells_new _ _ (grownR_drew (gr_alloc (grownR_refl w _) _)) (Nat.le_refl _))) (Nat.le_refl _)
 ·obtain rfl:i=ps.length:=by omega
  have hsl:Sl w (some ⟨vb,0,none⟩) [x.1,x.2]:=fun _=>⟨vb,0,rfl,fun j v hj=>by rw [Nat.zero_add];exact hvs j v hj⟩
  have HFIN:=Lib.hid (fun B k w' (h2:w'.ownsRow base 75 2 (.slice B (ps.length+1) k) (ps.length+1) (flatK enC ps++[x.1,x.2])) (h5:w.grownBy w' (Value.ownBlock (.slice A ps.length c))) (h6:B=A∨B=some ⟨w.heap.size,0,none⟩)=>show RetInsE ps ps.length x base A w (.returned (.slice B (ps.length+1) k)) w' from ⟨B,k,rfl,by rw [hfl,List.take_of_length_le (by omega),List.drop_of_length_le (by omega),List.append_nil];exact h2,by rw [ownBlock_blk] at h5;exact h5,by rcases h6 with rfl | rfl;exact .inl rfl;exact .inr rfl⟩)
  clear hfl hil hvs hv
  go_enter Tryz.func87,Tryz.ntmps87
  go_wp2_with (at_builtin;refine wpList_app _ _ 29 75 (.agg #[.slice none 0 0,.slice none 0 0]) 2 48 rfl rfl Tryz.underlying29 info_ent rfl (by decide) (by decide) rfl h rfl hsl (by simp) h1v' (by omega) hbase ?_;intro B1 c1 w1 hown1 hc1 hb1 hg1 ho1)
  all_goals (
   go_ret
   exact HFIN.out _ _ _ hown1 hg1 ho1)
end Go.Proofs.YtkhmjidaeliccaaGreatDoor
namespace Go.Proofs.YtkhmjidaeliccaaGreatDoor
open Go.RowKit Go.Maps Go.WideMaps
def MapC {κ:Type} (P:Program) (k:TypeId) (kl:κ→Lit) (ok:κ→Prop) (w:World) (b n:Nat) (f:κ→Option Value) (sz:Nat):Prop:=
 ∃D:DataW Value,w.ownsMap P k elemV b n D∧(∀x,ok x→Maps.has D (kl x)=(f x).isSome∧∀z,D.atKey (kl x) (.held z)=.held ((f x).getD z))∧Maps.size D=sz
section
variable {κ:Type} {P:Program} {k:TypeId} {kl:κ→Lit} {ok:κ→Prop} {w w':World} {b n sz:Nat} {f:κ→Option Value}
theorem MapC.is (h:MapC P k kl ok w b n f sz):MapIs P k kl ok w b n f:=by obtain ⟨D,h1,h2,_⟩:=h;exact ⟨D,h1,h2⟩
theorem MapC.made (P:Program) (k:TypeId) (kl:κ→Lit) (ok:κ→Prop) (w:World):MapC P k kl ok (w.alloc (.map #[] 0)) w.heap.size 0 (fun _=>none) 0:=
 ⟨.map [],World.ownsMap_made w P k elemV,fun _ _=>⟨rfl,fun _=>rfl⟩,rfl⟩
theorem MapC.lt (h:MapC P k kl ok w b n f sz):b < w.heap.size:=h.is.lt
theorem MapC.kept {row:Option Nat} (h:MapC P k kl ok w b n f sz) (hg:w.grownBy w' row) (hne:some b≠row):MapC P k kl ok w' b n f sz:=by
 obtain ⟨D,h1,h2⟩:=h
 exact ⟨D,h1.kept hg hne,h2⟩
theorem MapC.below (h:MapC P k kl ok w b n f sz) (hb:Below w.heap.size w w'):MapC P k kl ok w' b n f sz:=
 h.kept (row:=none) ⟨hb.os,hb.tape,hb.output,hb.size,fun k hk _=>hb.block k hk⟩ (by simp)
theorem MapC.put [DecidableEq κ] {t e:TypeId} (h:MapC P k kl ok w b n f sz) (K:Keyed P k) (ht:P.underlying t=some (.map k e)) (hn:n < maxLen) {key v:Value} {x:κ} (hx:ok x) (hkey:keyOf P k key=some (kl x))
  (hinj:∀y,ok y→kl y=kl x→y=x) :
  ∃w',(Instr.mapUpdate t (.map (some b)) key v).run P w=.ok () w'∧MapC P k kl ok w' b (n+1) (fun y=>if y=x then some v else f y) (if (f x).isSome=true then sz else sz+1)∧w.grownBy w' (some b):=by
 obtain ⟨D,h1,h2,h3⟩:=h
 obtain ⟨w',hrun,r1,r2⟩:=h1.update K ht hn hkey (val:=v) (d:=.held v) (ps:=[]) rfl
 refine ⟨w',hrun,⟨_,r1,fun y hy=>?_,?_⟩,r2⟩
 ·dsimp only
  by_cases e:y=x
  ·subst e
   rw [if_pos rfl]
   exact ⟨by rw [has_put_same h1.isMap (K.key hkey)];rfl,fun z=>atKey_put_same h1.isMap (K.key hkey) _ _⟩
  ·rw [if_neg e]
   have hne:kl y≠kl x:=fun e'=>e (hinj y hy e')
   rw [has_put_other hne]
   exact ⟨(h2 y hy).1,fun z=>(atKey_put_other hne _ _).trans ((h2 y hy).2 z)⟩
 ·rw [size_put (h1.tidy K),(h2 x hx).1,h3]
theorem MapC.drop [DecidableEq κ] {t e:TypeId} (h:MapC P k kl ok w b n f sz) (K:Keyed P k) (ht:P.underlying t=some (.map k e)) {key:Value} {x:κ} (hx:ok x) (hkey:keyOf P k key=some (kl x)) (hinj:∀y,ok y→kl y=kl x→y=x) (ty:TypeId) :
  ∃w',(Builtin.delete_ #[t,k] ty #[.map (some b),key]).run P w=.ok (.tuple #[]) w'∧MapC P k kl ok w' b n (fun y=>if y=x then none else f y) (sz - if (f x).isSome=true then 1 else 0)∧w.grownBy w' (some b):=by
 obtain ⟨D,h1,h2,h3⟩:=h
 obtain ⟨w',hrun,r1,r2⟩:=h1.drop K ht hkey ty
 refine ⟨w',hrun,⟨_,r1,fun y hy=>?_,?_⟩,r2.grown⟩
 ·dsimp only
  by_cases e:y=x
  ·subst e
   rw [if_pos rfl]
   exact ⟨has_del_same,fun z=>atKey_del_same _⟩
  ·rw [if_neg e]
   have hne:kl y≠kl x:=fun e'=>e (hinj y hy e')
   rw [has_del_other hne]
   exact ⟨(h2 y hy).1,fun z=>(atKey_del_other hne _).trans ((h2 y hy).2 z)⟩
 ·have h4:=size_del (k:=kl x) (h1.tidy K)
  rw [(h2 x hx).1,h3] at h4
  omega
theorem MapC.len {t e:TypeId} (h:MapC P k kl ok w b n f sz) (ht:P.underlying t=some (.map k e)) (ty:TypeId):(Builtin.len_ #[t] ty #[.map (some b)]).run P w=.ok (.int .i64 sz) w:=by
 obtain ⟨D,h1,_,h3⟩:=h
 rw [h1.len ht ty,h3]
end
section
variable {κ:Type} {P:Program} {w:World} {ops:Array Oper} {rest:List Oper} {o:Oper} {a:Act} {Q:Exit→Act→World→Prop} {md:Region.Mode} {S:World→Prop}
variable {k:TypeId} {kl:κ→Lit} {ok:κ→Prop} {b n sz:Nat} {f:κ→Option Value}
end
end Go.Proofs.YtkhmjidaeliccaaGreatDoor
namespace Go.Proofs.YtkhmjidaeliccaaGreatDoor
open Go.RowKit Go.Maps Go.WideMaps
theorem WghAt.low {w w':World} {s base:Nat} {va:Int} {a:Bool} (h:WghAt w s va a) (hb:Below base w w') (hs:s+1 < base):WghAt w' s va a:=⟨h.b0.below hb (by omega),h.b1.below hb hs⟩
theorem WghAt.set {w:World} {s:Nat} {va:Int} {a:Bool} (h:WghAt w s va a) (p:Addr) (hp:p.block < s) (v:Value):WghAt (w.setCell p v) s va a:=⟨bx_ne h.b0 p (by omega) v,bx_ne h.b1 p (by omega) v⟩
end Go.Proofs.YtkhmjidaeliccaaGreatDoor
namespace Go.Proofs.YtkhmjidaeliccaaGreatDoor
open Go.RowKit Go.Maps Go.WideMaps
theorem elsF_len {cl:Int→Int} {ent:List Int→Option (List Elt)} {imp:Int→List Elt} (h:∀p q,(Mtc.ofPart ent imp p q).length≤16) (t:List Int):(Mtc.elems cl ent imp t).length≤16*t.length:=by
 refine Mtc.parts_ind cl ent (P:=fun t=>(Mtc.elems cl ent imp t).length≤16*t.length) (by simp [Mtc.elems_nil]) (fun t ht ih=>?_) t
 rw [Mtc.elems_step ht,List.length_append]
 have h1:=h (Mtc.matched cl ent t).1 (Mtc.matched cl ent t).2.2
 have h2:=(Mtc.matched_len (cl:=cl) (ent:=ent) ht).1
 omega
theorem elsN_len (x:Nrm) (c:Col) (t:List Int):(elsN x c t).length≤1024*t.length:=by
 have h1:=elsF_len (cl:=cls (usN x).cls) (part_len (colD_ok c)) (dtx x false t)
 have h2:=dtx_len x false t
 unfold elsN
 omega
structure Grw (WD W:World) (base:Nat) (K0 K:Option Addr) (k:Nat) (zs:List Int):Prop where
 own:W.ownsRow base 3 1 (.slice K zs.length k) zs.length (zs.map (Value.int .i64))
 gr:WD.grownBy W (blk K0)
 or_:K=K0∨∀q,blk K=some q→WD.heap.size≤q
theorem Grw.app {WD W W':World} {base:Nat} {K0 K B:Option Addr} {k k':Nat} {zs ys:List Int} {o:Obj} (h:Grw WD W base K0 K k zs) (ho:W'.ownsRow base 3 1 (.slice B (zs.length+ys.length) k') (zs.length+ys.length) (zs.map (Value.int .i64)++ys.map (Value.int .i64))) (hg:(W.alloc o).grownBy W' (Value.ownBlock (.slice K zs.length k))) (hB:B=K∨B=some ⟨(W.alloc o).heap.size,0,none⟩):Grw WD W' base K0 B k' (zs++ys):=by
 rw [ownBlock_blk] at hg
 have h1:=gr_alloc h.gr o
 have hz:=h1.size
 refine ⟨by rw [List.length_append,List.map_append];exact ho,?_,?_⟩
 ·rcases h.or_ with rfl | g
  ·exact grownR_trans h1 hg
  ·exact ⟨hg.os.trans h1.os,hg.tape.trans h1.tape,hg.output.trans h1.output,Nat.le_trans hz hg.size,fun q hq hne=>(hg.block q (by omega) (fun e=>by have:=g q e.symm;omega)).trans (h1.block q hq hne)⟩
 ·rcases hB with rfl | rfl
  ·exact h.or_
  ·right
   intro q hq
   have:q=(W.alloc o).heap.size:=by injection hq with hq;exact hq.symm
   omega
theorem Grw.low {WD W:World} {base:Nat} {K0 K:Option Addr} {k:Nat} {zs:List Int} (h:Grw WD W base K0 K k zs) (hb:base≤WD.heap.size) (hk:∀q,blk K0=some q→base≤q):Below base WD W:=
 ⟨h.gr.os,h.gr.tape,h.gr.output,h.gr.size,fun q hq=>h.gr.block q (by omega) (fun e=>by have:=hk q e.symm;omega)⟩
theorem Grw.ints {WD W:World} {base:Nat} {K0 K A:Option Addr} {k n c bd:Nat} {zs d:List Int} (h:Grw WD W base K0 K k zs) (hA:WD.ownsRow bd 3 1 (.slice A n c) n (d.map (Value.int .i64))) (hk:∀q,blk K0=some q→q < bd):Ints W A d:=by
 refine Sl.of_own (hA.kept h.gr ?_)
 rw [ownBlock_blk]
 cases hb:blk A with
 | none=>exact .inl rfl
 | some q=>
  right
  intro e
  have h1:=(hA.lt q (by rw [ownBlock_blk];exact hb)).1
  have h2:=hk q e.symm
  omega
end Go.Proofs.YtkhmjidaeliccaaGreatDoor
namespace Go.Proofs.YtkhmjidaeliccaaGreatDoor
open Go.RowKit Go.Maps Go.WideMaps
structure Chg (S:Nat→Prop) (w w':World):Prop where
 os:w'.os=w.os
 tape:w'.tape=w.tape
 output:w'.output=w.output
 size:w.heap.size≤w'.heap.size
 block:∀k,k < w.heap.size→¬S k→w'.heap[k]?=w.heap[k]?
theorem Chg.refl (S:Nat→Prop) (w:World):Chg S w w:=⟨rfl,rfl,rfl,Nat.le_refl _,fun _ _ _=>rfl⟩
theorem Chg.mono {S S':Nat→Prop} {w w':World} (h:Chg S w w') (hs:∀k,k < w.heap.size→S k→S' k):Chg S' w w':=⟨h.os,h.tape,h.output,h.size,fun k hk hn=>h.block k hk (fun q=>hn (hs k hk q))⟩
theorem Chg.trans {S:Nat→Prop} {a b c:World} (h:Chg S a b) (g:Chg S b c):Chg S a c:=
 ⟨g.os.trans h.os,g.tape.trans h.tape,g.output.trans h.output,Nat.le_trans h.size g.size,fun k hk hn=>(g.block k (Nat.lt_of_lt_of_le hk h.size) hn).trans (h.block k hk hn)⟩
theorem Chg.of_below {S:Nat→Prop} {w w':World} (h:Below w.heap.size w w'):Chg S w w':=⟨h.os,h.tape,h.output,h.size,fun k hk _=>h.block k hk⟩
theorem Chg.of_grown {S:Nat→Prop} {w w':World} {r:Option Nat} (h:w.grownBy w' r) (hr:∀q,r=some q→S q):Chg S w w':=⟨h.os,h.tape,h.output,h.size,fun k hk hn=>h.block k hk (fun e=>hn (hr k e.symm))⟩
theorem Chg.below {S:Nat→Prop} {w w':World} {n:Nat} (h:Chg S w w') (hn:n≤w.heap.size) (hs:∀k,S k→n≤k):Below n w w':=⟨h.os,h.tape,h.output,h.size,fun k hk=>h.block k (Nat.lt_of_lt_of_le hk hn) (fun q=>by have:=hs k q;omega)⟩
theorem Chg.sl {S:Nat→Prop} {w w':World} (h:Chg S w w') {A:Option Addr} {cs:List Value} (hA:Sl w A cs) (hn:cs≠[]→∀q,blk A=some q→¬S q):Sl w' A cs:=fun hne=>by
 obtain ⟨b,o,rfl,hc⟩:=hA hne
 have hb:b < w.heap.size:=sl_lt hA hne rfl
 refine ⟨b,o,rfl,fun j u hu=>?_⟩
 rw [World.cell?_of_block (h.block b hb (hn hne b rfl))]
 exact hc j u hu
theorem Chg.box {S:Nat→Prop} {w w':World} (h:Chg S w w') {b:Nat} {t:TypeId} {cs:List Value} (hB:Box w b t cs) (hn:¬S b):Box w' b t cs:=(h.block b hB.lt hn).trans hB
theorem grps_one (gs:List Grp):∀u ∈ flatK Grp.cells gs,u.oneCell'=true:=by
 intro u hu
 obtain ⟨g,_,hg⟩:=List.mem_flatMap.1 hu
 simp only [Grp.cells,List.mem_cons,List.not_mem_nil,or_false] at hg
 rcases hg with rfl | rfl | rfl <;> rfl
def RowE (w:World) (lo hi:Nat) (v:Value × Value) (x:Ent):Prop:=∃C c E d,v=(.slice C x.codes.length c,.slice E x.elems.length d)∧w.ownsRow lo 3 1 (.slice C x.codes.length c) x.codes.length (x.codes.map (Value.int .i64))∧w.ownsRow lo 77 4 (.slice E x.elems.length d) x.elems.length (flatK Elt.cells x.elems)∧(∀q,blk C=some q→q < hi)∧(∀q,blk E=some q→q < hi)∧(∀q,blk C=some q→blk E≠some q)
structure CpE (w:World) (base z:Nat) (B:Option Addr) (cap:Nat) (xs:List Ent) (k top:Nat):Prop where
 ex:∃(vs:List (Value × Value)) (m:Nat→Nat),vs.length=xs.length∧w.ownsRow base 75 2 (.slice B xs.length cap) xs.length (flatK enC vs)∧
  (∀i,(hi:i < xs.length)→(hv:i < vs.length)→∃C c E d,vs[i]=(.slice C xs[i].codes.length c,.slice E xs[i].elems.length d)∧IntsAp B z w C xs[i].codes∧EltsAp B z w E xs[i].elems)∧
  (∀i,i < k→m i≤m (i+1))∧m k≤top∧top≤w.heap.size∧(∀q,blk B=some q→q < m 0)∧z < m 0∧
  ∀i,i < k→(hi:i < xs.length)→(hv:i < vs.length)→RowE w (m i) (m (i+1)) vs[i] xs[i]
theorem mono_up {m:Nat→Nat} {k:Nat} (h:∀i,i < k→m i≤m (i+1)):∀i,i≤k→m 0≤m i
 | 0,_=>Nat.le_refl _
 | i+1,hi=>Nat.le_trans (mono_up h i (by omega)) (h i (by omega))
section
variable {w w':World} {base z lo hi:Nat} {B:Option Addr} {cap k top:Nat} {xs:List Ent} {v:Value × Value} {x:Ent}
theorem RowE.below (h:RowE w lo hi v x) (hb:Below w.heap.size w w'):RowE w' lo hi v x:=by
 obtain ⟨C,c,E,d,e1,e2,e3,e4⟩:=h
 exact ⟨C,c,E,d,e1,own_keep e2 hb,own_keep e3 hb,e4⟩
theorem RowE.set (h:RowE w lo hi v x) {p:Addr} (hp:p.block < lo) (u:Value):RowE (w.setCell p u) lo hi v x:=by
 obtain ⟨C,c,E,d,e1,e2,e3,e4⟩:=h
 exact ⟨C,c,E,d,e1,ownsRow_setCell_below e2 hp u,ownsRow_setCell_below e3 hp u,e4⟩
theorem EntsIn.cp (h:EntsIn w base z B cap xs) (hz:z < w.heap.size):CpE w base z B cap xs 0 w.heap.size:=by
 obtain ⟨vs,h1,h2,h3⟩:=h.ex
 exact ⟨vs,fun _=>w.heap.size,h1,h2,h3,fun i hi=>absurd hi (by omega),Nat.le_refl _,Nat.le_refl _,fun q hq=>(own_blk h2 hq).2,hz,fun i hi=>absurd hi (by omega)⟩
theorem CpE.into (h:CpE w base z B cap xs k top):EntsIn w base z B cap xs:=by
 obtain ⟨vs,m,h1,h2,h3,_⟩:=h.ex
 exact ⟨vs,h1,h2,h3⟩
theorem CpE.top_le (h:CpE w base z B cap xs k top):top≤w.heap.size:=by
 obtain ⟨vs,m,h1,h2,h3,h4,h5,h5b,_⟩:=h.ex
 exact h5b
theorem CpE.below (h:CpE w base z B cap xs k top) (hb:Below w.heap.size w w'):CpE w' base z B cap xs k top:=by
 obtain ⟨vs,m,h1,h2,h3,h4,h5,h5b,h6,h7,h8⟩:=h.ex
 refine ⟨vs,m,h1,own_keep h2 hb,fun i hi hv=>?_,h4,h5,Nat.le_trans h5b hb.size,h6,h7,fun i hk hi hv=>(h8 i hk hi hv).below hb⟩
 obtain ⟨C,c,E,d,e1,e2,e3⟩:=h3 i hi hv
 exact ⟨C,c,E,d,e1,e2.below hb,e3.below hb⟩
theorem CpE.off (h:CpE w base z B cap xs k top) (hz:z < base) (p:Addr) (hp:p.block=z) (v:Value):CpE (w.setCell p v) base z B cap xs k top:=by
 obtain ⟨vs,m,h1,h2,h3,h4,h5,h5b,h6,h7,h8⟩:=h.ex
 refine ⟨vs,m,h1,own_z h2 hz p hp v,fun i hi hv=>?_,h4,h5,by simpa using h5b,h6,h7,fun i hk hi hv=>(h8 i hk hi hv).set (by have:=mono_up h4 i (by omega);omega) v⟩
 obtain ⟨C,c,E,d,e1,e2,e3⟩:=h3 i hi hv
 exact ⟨C,c,E,d,e1,e2.stored p (.inr hp) v,e3.stored p (.inr hp) v⟩
theorem CpE.put {g:Nat} (h:CpE w base z (some ⟨g,0,none⟩) cap xs k top) (hk:k < xs.length) {C:Option Addr} {c:Nat} {E:Option Addr} {d lo:Nat} (hlo:top≤lo)
  (hC:w.ownsRow lo 3 1 (.slice C xs[k].codes.length c) xs[k].codes.length (xs[k].codes.map (Value.int .i64))) (hE:w.ownsRow lo 77 4 (.slice E xs[k].elems.length d) xs[k].elems.length (flatK Elt.cells xs[k].elems)) (hCE:∀q,blk C=some q→blk E≠some q) :
  CpE ((w.setCell ⟨g,k*2,none⟩ (.slice C xs[k].codes.length c)).setCell ⟨g,k*2+1,none⟩ (.slice E xs[k].elems.length d)) base z (some ⟨g,0,none⟩) cap xs (k+1) w.heap.size:=by
 obtain ⟨vs,m,h1,h2,h3,h4,h5,h5b,h6,h7,h8⟩:=h.ex
 have hm0:=mono_up h4 k (Nat.le_refl _)
 have hg:=h6 g rfl
 have hap:∀(A:Option Addr) (l:Nat),(∀q,blk A=some q→lo≤q)→∀q,blk A=some q→g≠q∧q≠z:=fun A l hA q hq=>by have:=hA q hq;omega
 have hpt:EntsIn ((w.setCell ⟨g,k*2,none⟩ (.slice C xs[k].codes.length c)).setCell ⟨g,k*2+1,none⟩ (.slice E xs[k].elems.length d)) base z (some ⟨g,0,none⟩) cap xs:=(EntsIn.put ⟨vs,h1,h2,h3⟩ hk (Sl.of_own hC) (fun _=>hap C 0 (fun q hq=>(own_blk hC hq).1)) (Sl.of_own hE) (fun _=>hap E 0 (fun q hq=>(own_blk hE hq).1)))
 have hzi:k < vs.length:=by omega
 have e1:∀(A:Option Addr) (n c1:Nat) (e:TypeId) (size:Nat) (cs:List Value) (l:Nat),g < l→w.ownsRow l e size (.slice A n c1) n cs→((w.setCell ⟨g,k*2,none⟩ (.slice C xs[k].codes.length c)).setCell ⟨g,k*2+1,none⟩ (.slice E xs[k].elems.length d)).ownsRow l e size (.slice A n c1) n cs:=fun A n c1 e size cs l hl ho=>ownsRow_setCell_below (ownsRow_setCell_below ho (a:=⟨g,k*2,none⟩) hl _) (a:=⟨g,k*2+1,none⟩) hl _
 refine ⟨vs.set k (.slice C xs[k].codes.length c,.slice E xs[k].elems.length d),fun j=>if j≤k then m j else w.heap.size,by simpa using h1,?_,?_,fun i hi=>?_,?_,by simp,fun q hq=>?_,?_,fun i hi hix hiv=>?_⟩
 ·have t1:=(h2.stored (k*2+0) (.slice C xs[k].codes.length c)).1
  rw [flatK_set enC 2 (fun _=>rfl) vs k 0 _ (.slice C xs[k].codes.length c,vs[k].2) hzi (by omega) rfl] at t1
  have t2:=(t1.stored (k*2+1) (.slice E xs[k].elems.length d)).1
  rw [flatK_set enC 2 (fun _=>rfl) (vs.set k (.slice C xs[k].codes.length c,vs[k].2)) k 1 _ (.slice C xs[k].codes.length c,.slice E xs[k].elems.length d) (by simpa using hzi) (by omega) (by rw [List.getElem_set_self];rfl),List.set_set] at t2
  exact t2
 ·intro i hi hv
  have hIC:IntsAp (some ⟨g,0,none⟩) z w C xs[k].codes:=⟨Sl.of_own hC,fun hne q hq=>⟨fun e=>(hap C 0 (fun q hq=>(own_blk hC hq).1) q hq).1 (Option.some.inj (show some g=some q from e)),(hap C 0 (fun q hq=>(own_blk hC hq).1) q hq).2⟩⟩
  have hIE:EltsAp (some ⟨g,0,none⟩) z w E xs[k].elems:=⟨Sl.of_own hE,fun hne q hq=>⟨fun e=>(hap E 0 (fun q hq=>(own_blk hE hq).1) q hq).1 (Option.some.inj (show some g=some q from e)),(hap E 0 (fun q hq=>(own_blk hE hq).1) q hq).2⟩⟩
  by_cases e:k=i
  ·subst e
   exact ⟨C,c,E,d,by rw [List.getElem_set_self],(hIC.stored ⟨g,k*2,none⟩ (.inl rfl) _).stored ⟨g,k*2+1,none⟩ (.inl rfl) _,(hIE.stored ⟨g,k*2,none⟩ (.inl rfl) _).stored ⟨g,k*2+1,none⟩ (.inl rfl) _⟩
  ·obtain ⟨C',c',E',d',e1,e2,e3⟩:=h3 i hi (by simpa using hv)
   exact ⟨C',c',E',d',by rw [List.getElem_set_ne e,e1],(e2.stored ⟨g,k*2,none⟩ (.inl rfl) _).stored ⟨g,k*2+1,none⟩ (.inl rfl) _,(e3.stored ⟨g,k*2,none⟩ (.inl rfl) _).stored ⟨g,k*2+1,none⟩ (.inl rfl) _⟩
 ·dsimp only
  rw [if_pos (by omega)]
  by_cases e:i=k
  ·subst e;rw [if_neg (by omega)];omega
  ·rw [if_pos (by omega)];exact h4 i (by omega)
 ·dsimp only
  rw [if_neg (by omega)]
  exact Nat.le_refl _
 ·dsimp only
  rw [if_pos (by omega)]
  exact h6 q hq
 ·dsimp only
  rw [if_pos (by omega)]
  exact h7
 ·dsimp only
  rw [if_pos (by omega)]
  by_cases e:i=k
  ·subst e
   rw [if_neg (by omega),List.getElem_set_self]
   exact ⟨C,c,E,d,rfl,e1 C _ _ _ _ _ _ (by omega) (own_mono hC (by omega)),e1 E _ _ _ _ _ _ (by omega) (own_mono hE (by omega)),fun q hq=>(own_blk hC hq).2,fun q hq=>(own_blk hE hq).2,hCE⟩
  ·rw [if_pos (by omega),List.getElem_set_ne (fun q=>e q.symm)]
   have:=mono_up h4 i (by omega)
   exact ((h8 i (by omega) hix (by omega)).set (p:=⟨g,k*2,none⟩) (by dsimp only;omega) _).set (p:=⟨g,k*2+1,none⟩) (by dsimp only;omega) _
end
def RetCp (c:Col) (w:World) (e:Ending) (w':World):Prop:=∃A a B b base z top,e=.returned (colV A c.ents.length a B c.grps.length b c)∧CpE w' base z A a c.ents c.ents.length top∧w'.ownsRow w.heap.size 98 3 (.slice B c.grps.length b) c.grps.length (flatK Grp.cells c.grps)∧(∀q,blk B=some q→q < base)∧ColAt w' A c.ents.length B c.grps.length c∧w.heap.size≤z∧z < base∧Below w.heap.size w w'
theorem results_col {fn:Func} (hr:fn.results=#[.cell 2 32]) (tmps:Array Value) (w:World) {b:Nat} {v0 v1 v2 v3 v4:Value} (ha:tmps.getD 2 undef=.pointer (some ⟨b,0,none⟩))
  (c0:w.cell? ⟨b,0,none⟩=some v0) (c1:w.cell? ⟨b,1,none⟩=some v1) (c2:w.cell? ⟨b,2,none⟩=some v2) (c3:w.cell? ⟨b,3,none⟩=some v3) (c4:w.cell? ⟨b,4,none⟩=some v4) :
  (results fn tmps).run Tryz.prog w=.ok (.agg #[v0,v1,v2,v3,v4]) w:=by
 unfold results
 rw [hr]
 simp only [ha,List.mapM_toArray,List.mapM_cons,List.mapM_nil,asAddr]
 go_simp
theorem copied_any (A:Option Addr) (n a:Nat) (B:Option Addr) (m b:Nat) (c:Col) (w:World) (hC:ColAt w A n B m c) (hz:ColSz c) :
  Calls Tryz.prog 38 #[colV A n a B m b c] w (RetCp c w):=by
 obtain ⟨hE,hG,rfl,rfl,hs⟩:=hC
 unfold colV RetCp
 unfold colV
 have B0:Below w.heap.size w ((w.alloc (.cells #[.slice A c.ents.length a,.slice B c.grps.length b,.int .i64 c.base,.int .i64 c.second,.int .i64 c.third] 32)).alloc (.cells #[.slice none 0 0,.slice none 0 0,.int .i64 0,.int .i64 0,.int .i64 0] 32)):=((Below.refl _ _).alloc (Nat.le_refl _) _).alloc (by simp) _
 have X0:Box ((w.alloc (.cells #[.slice A c.ents.length a,.slice B c.grps.length b,.int .i64 c.base,.int .i64 c.second,.int .i64 c.third] 32)).alloc (.cells #[.slice none 0 0,.slice none 0 0,.int .i64 0,.int .i64 0,.int .i64 0] 32)) w.heap.size 32 [.slice A c.ents.length a,.slice B c.grps.length b,.int .i64 c.base,.int .i64 c.second,.int .i64 c.third]:=bx_alloc (Box.new w 32 [.slice A c.ents.length a,.slice B c.grps.length b,.int .i64 c.base,.int .i64 c.second,.int .i64 c.third] rfl) _
 have X1:Box ((w.alloc (.cells #[.slice A c.ents.length a,.slice B c.grps.length b,.int .i64 c.base,.int .i64 c.second,.int .i64 c.third] 32)).alloc (.cells #[.slice none 0 0,.slice none 0 0,.int .i64 0,.int .i64 0,.int .i64 0] 32)) (w.heap.size+1) 32 [.slice none 0 0,.slice none 0 0,.int .i64 0,.int .i64 0,.int .i64 0]:=Box.new _ _ _ (by simp)
 have W0E:∃W0,((w.alloc (.cells #[.slice A c.ents.length a,.slice B c.grps.length b,.int .i64 c.base,.int .i64 c.second,.int .i64 c.third] 32)).alloc (.cells #[.slice none 0 0,.slice none 0 0,.int .i64 0,.int .i64 0,.int .i64 0] 32))=W0:=⟨_,rfl⟩
 obtain ⟨cs1,hc1,hl1,h11,hin⟩:=ents_raw hE
 have z0:=hz.n
 have z1:=hz.m
 have C0:=Lib.hid (fun W (hb:Below w.heap.size w W)=>cloneGroup_raw B c.grps.length b (flatK Grp.cells c.grps) W (Sl.below hG hb) (flatK_len Grp.cells 3 (fun _=>rfl) c.grps) (grps_one _) (by omega))
 have C1:=Lib.hid (fun W (hb:Below w.heap.size w W)=>cloneEntry_raw A c.ents.length a cs1 W (Sl.below hc1 hb) hl1 h11 (by omega))
 have HIN:=Lib.hid hin
 have CI:=Lib.hid (fun i (hi:i < c.ents.length) C k W (hI:Ints W C c.ents[i].codes)=>cloneI_any C c.ents[i].codes.length k c.ents[i].codes W hI rfl (hz.e i hi).1)
 have CE:=Lib.hid (fun i (hi:i < c.ents.length) C k W (hI:Elts W C c.ents[i].elems)=>cloneE_any C c.ents[i].elems.length k c.ents[i].elems W hI rfl (hz.e i hi).2)
 have HFIN:=Lib.hid (fun A' B' W (h0:Ents W A' c.ents) (h1:Grps W B' c.grps)=>(⟨h0,h1,rfl,rfl,hs⟩:ColAt W A' c.ents.length B' c.grps.length c))
 have SZ:=Lib.hid (fun i (hi:i < c.ents.length)=>hz.e i hi)
 unfold RetOwnC at C0 C1
 unfold RetOwnI at CI
 unfold RetOwnE at CE
 clear hE hG hs hz hc1 hl1 h11 hin
 go_enter Tryz.func38,Tryz.ntmps38
 go_upto_region 1 with (fail)
 obtain ⟨W0,hW0⟩:=W0E
 try rw [hW0] at B0 X0 X1 ⊢
 clear hW0
 have s0:=X0.lt
 have s1:=X1.lt
 have d0:=X0.cell (i:=1) rfl
 go_wp2_with fail
 with_reducible refine (C0.out W0 B0).mono ?_
 rintro e Wa ⟨E1,e1,rfl,O1,hba⟩
 have f0:=(X0.below hba s0).free 1
 have g0:=(X0.below hba s0).cell (i:=1) rfl
 have Y0:Box (Wa.setCell ⟨w.heap.size,1,none⟩ (.slice E1 c.grps.length e1)) w.heap.size 32 [.slice A c.ents.length a,.slice E1 c.grps.length e1,.int .i64 c.base,.int .i64 c.second,.int .i64 c.third]:=(X0.below hba s0).set 1 _
 have Y1:Box (Wa.setCell ⟨w.heap.size,1,none⟩ (.slice E1 c.grps.length e1)) (w.heap.size+1) 32 [.slice none 0 0,.slice none 0 0,.int .i64 0,.int .i64 0,.int .i64 0]:=bx_ne (X1.below hba s1) _ (by simp) _
 have Bb:Below w.heap.size w (Wa.setCell ⟨w.heap.size,1,none⟩ (.slice E1 c.grps.length e1)):=(B0.trans (hba.mono B0.size)).setCell (Nat.le_refl _) _
 have NO1:=ownsRow_setCell_below O1 (a:=⟨w.heap.size,1,none⟩) s0 (.slice E1 c.grps.length e1)
 have hsz:W0.heap.size≤(Wa.setCell ⟨w.heap.size,1,none⟩ (.slice E1 c.grps.length e1)).heap.size:=by have:=hba.size;simpa using this
 have hlq:Below W0.heap.size w (Wa.setCell ⟨w.heap.size,1,none⟩ (.slice E1 c.grps.length e1))→True:=fun _=>trivial
 have WE:∃W,(Wa.setCell ⟨w.heap.size,1,none⟩ (.slice E1 c.grps.length e1))=W:=⟨_,rfl⟩
 clear O1 d0 X0 X1 hba B0 hlq
 go_upto_region 2 with (fail)
 obtain ⟨W1,hW⟩:=WE
 try rw [hW] at Bb Y0 Y1 hsz NO1 ⊢
 clear hW f0 g0 C0
 have O1:=NO1
 clear NO1
 have X0:=Y0
 have X1:=Y1
 have B0:=Bb
 have zW0:=hsz
 have tW0:=s1
 clear Y0 Y1 Bb hsz s1
 have sW0:=s0
 clear s0
 have s0:=X0.lt
 have s1:=X1.lt
 have Q1:=Lib.hid (fun q (hq:blk E1=some q)=>own_blk O1 hq)
 have d0:=X0.cell (i:=0) rfl
 go_wp2_with fail
 with_reducible refine (C1.out W1 B0).mono ?_
 rintro e Wb ⟨E0,e0,rfl,O0,hba⟩
 have f0:=(X0.below hba s0).free 0
 have g0:=(X0.below hba s0).cell (i:=0) rfl
 have Y0:Box (Wb.setCell ⟨w.heap.size,0,none⟩ (.slice E0 c.ents.length e0)) w.heap.size 32 [.slice E0 c.ents.length e0,.slice E1 c.grps.length e1,.int .i64 c.base,.int .i64 c.second,.int .i64 c.third]:=(X0.below hba s0).set 0 _
 have Y1:Box (Wb.setCell ⟨w.heap.size,0,none⟩ (.slice E0 c.ents.length e0)) (w.heap.size+1) 32 [.slice none 0 0,.slice none 0 0,.int .i64 0,.int .i64 0,.int .i64 0]:=bx_ne (X1.below hba s1) _ (by simp) _
 have Bb:Below w.heap.size w (Wb.setCell ⟨w.heap.size,0,none⟩ (.slice E0 c.ents.length e0)):=(B0.trans (hba.mono B0.size)).setCell (Nat.le_refl _) _
 have NO0:=ownsRow_setCell_below O0 (a:=⟨w.heap.size,0,none⟩) s0 (.slice E0 c.ents.length e0)
 have NO1:=ownsRow_setCell_below (own_keep O1 hba) (a:=⟨w.heap.size,0,none⟩) (by omega) (.slice E0 c.ents.length e0)
 have hsz:W1.heap.size≤(Wb.setCell ⟨w.heap.size,0,none⟩ (.slice E0 c.ents.length e0)).heap.size:=by have:=hba.size;simpa using this
 have hlq:Below W1.heap.size w (Wb.setCell ⟨w.heap.size,0,none⟩ (.slice E0 c.ents.length e0))→True:=fun _=>trivial
 have WE:∃W,(Wb.setCell ⟨w.heap.size,0,none⟩ (.slice E0 c.ents.length e0))=W:=⟨_,rfl⟩
 have HM:=HIN.out W1.heap.size (w.heap.size+1) E0 e0 _ Bb B0.size (by omega) NO0
 clear NO0 O0 O1 d0 X0 X1 hba B0 hlq HIN
 go_upto_region 3 with (fail)
 obtain ⟨W2,hW⟩:=WE
 try rw [hW] at Bb Y0 Y1 hsz HM NO1 ⊢
 clear hW f0 g0 C1
 have O1:=NO1
 clear NO1
 have X0:=Y0
 have X1:=Y1
 have B0:=Bb
 have zW1:=hsz
 have tW1:=s1
 clear Y0 Y1 Bb hsz s1
 have sW1:=s0
 clear s0
 have s0:=X0.lt
 have s1:=X1.lt
 have HO1:=Lib.hid O1
 have HX0:=Lib.hid X0
 have HX1:=Lib.hid X1
 have HB0:=Lib.hid B0
 have HMM:=Lib.hid HM
 have HE1:=Lib.hid (fun q (hq:blk E0=some q)=>show W1.heap.size≤q from by
  obtain ⟨vs,_,h2,_⟩:=HM.ex
  exact (own_blk h2 hq).1)
 have hz3:w.heap.size+1 < W1.heap.size:=by omega
 have hz2:W1.heap.size≤W2.heap.size:=by omega
 have q1:=X0.cell (i:=0) rfl
 clear O1 X0 X1 B0 HM s0 s1
 go_wp2_with fail
 go_loopw [16] (fun u wr=>∃i top:Nat,i≤c.ents.length∧u=.int .i64 i∧CpE wr W1.heap.size (w.heap.size+1) E0 e0 c.ents i top∧W2.grownBy wr (blk E0)) (fun u _=>c.ents.length - (intOf u).toNat)
 case atStart=>exact ⟨0,W2.heap.size,Nat.zero_le _,rfl,HMM.out.cp (by omega),grownR_refl _ _⟩
 case round=>
  obtain ⟨i,top,hi,rfl,hm,hg⟩:=hrel
  have hws:=hg.size
  have HW:=Lib.hid hg
  have n0:some w.heap.size≠blk E0:=fun e=>by have:=HE1.out _ e.symm;omega
  have n1:some (w.heap.size+1)≠blk E0:=fun e=>by have:=HE1.out _ e.symm;omega
  have HXr:=Lib.hid (HX0.out.grown hg n0)
  have HXs:=Lib.hid (HX1.out.grown hg n1)
  clear n0 n1
  by_cases hlt:i < c.ents.length
  ·obtain ⟨g,C,cc,E,ec,hEq,hge,hgl,c0,c1,f0,f1,hC,hEl⟩:=hm.into.at hlt
   subst hEq
   have HMi:=Lib.hid hm
   have htop:=hm.top_le
   have PUT:=Lib.hid (fun (K:Option Addr) (k:Nat) (D:Option Addr) (d lo:Nat) (W:World) (h:CpE W W1.heap.size (w.heap.size+1) (some ⟨g,0,none⟩) e0 c.ents i top) hlo hK hD hKD=>h.put (C:=K) (c:=k) (E:=D) (d:=d) (lo:=lo) hlt hlo hK hD hKD)
   have CIi:=Lib.hid (CI.out i hlt)
   have CEi:=Lib.hid (CE.out i hlt)
   have HC:=Lib.hid hC
   have HEl:=Lib.hid hEl
   clear hm hg hC hEl
   have hcap:=SZ.out i hlt
   generalize c.ents[i]=en at *
   obtain ⟨cd,el⟩:=en
   dsimp only at *
   have hne:¬g=wr.heap.size:=by omega
   have c0':wr.cell? ⟨g,0+i*2,none⟩=some (.slice C cd.length cc):=by rw [Nat.zero_add];exact c0
   have BA:Below wr.heap.size wr (wr.alloc (.cells #[.slice C cd.length cc,.slice E el.length ec] 75)):=(Below.refl _ _).alloc (Nat.le_refl _) _
   have XA:Box (wr.alloc (.cells #[.slice C cd.length cc,.slice E el.length ec] 75)) wr.heap.size 75 [.slice C cd.length cc,.slice E el.length ec]:=Box.new wr 75 [.slice C cd.length cc,.slice E el.length ec] rfl
   have WaE:∃Wa,(wr.alloc (.cells #[.slice C cd.length cc,.slice E el.length ec] 75))=Wa:=⟨_,rfl⟩
   go_upto_region 6 with (fail)
   obtain ⟨Wa,hWa⟩:=WaE
   try rw [hWa] at BA XA ⊢
   clear hWa c0 c1 c0'
   have sa:=XA.lt
   have XRa:=HXr.out.below BA HXr.out.lt
   have sw:=XRa.lt
   have hgw:g < Wa.heap.size:=by omega
   have hga:g≠w.heap.size:=by omega
   have hgb:g≠wr.heap.size:=by omega
   have k1:=XRa.cell (i:=0) rfl
   have k2:=XA.cell (i:=0) rfl
   have k3:=XA.cell (i:=1) rfl
   have SH:=Lib.hid (fun W' (hg':Wa.grownBy W' (some g))=>show W'.cell? ⟨w.heap.size,0,none⟩=some (.slice (some ⟨g,0,none⟩) c.ents.length e0)∧W'.cell? ⟨wr.heap.size,0,none⟩=some (.slice C cd.length cc)∧W'.cell? ⟨wr.heap.size,1,none⟩=some (.slice E el.length ec)∧Wa.grownBy W' (some g) from ⟨(World.cell?_of_block (hg'.block _ sw (fun e=>hga (by injection e with e;exact e.symm)))).trans k1,(World.cell?_of_block (hg'.block _ sa (fun e=>hgb (by injection e with e;exact e.symm)))).trans k2,(World.cell?_of_block (hg'.block _ sa (fun e=>hgb (by injection e with e;exact e.symm)))).trans k3,hg'⟩)
   have FRZ:=Lib.hid (CpE.below HMi.out BA)
   have TI:=Lib.hid (fun W (hb':Below Wa.heap.size Wa W) (hg':Wa.grownBy W (some g))=>(CIi.out C cc W ((HC.out.below BA).below hb')).mono (R':=fun e' W'=>∃v,e'=.returned v∧(W'.cell? ⟨w.heap.size,0,none⟩=some (.slice (some ⟨g,0,none⟩) c.ents.length e0)∧W'.cell? ⟨wr.heap.size,0,none⟩=some (.slice C cd.length cc)∧W'.cell? ⟨wr.heap.size,1,none⟩=some (.slice E el.length ec)∧Wa.grownBy W' (some g))∧(∃K k,v=.slice K cd.length k∧W'.ownsRow Wa.heap.size 3 1 (.slice K cd.length k) cd.length (cd.map (Value.int .i64))∧Below Wa.heap.size Wa W')) (fun e' W' ⟨K,k,he,g1,g2⟩=>⟨_,he,SH.out W' (grownR_below hg' g2),K,k,rfl,own_mono g1 hb'.size,hb'.trans (g2.mono hb'.size)⟩))
   have TE:=Lib.hid (fun W (hb':Below Wa.heap.size Wa W) (hg':Wa.grownBy W (some g))=>(CEi.out E ec W ((HEl.out.below BA).below hb')).mono (R':=fun e' W'=>∃v,e'=.returned v∧(W'.cell? ⟨w.heap.size,0,none⟩=some (.slice (some ⟨g,0,none⟩) c.ents.length e0)∧W'.cell? ⟨wr.heap.size,0,none⟩=some (.slice C cd.length cc)∧W'.cell? ⟨wr.heap.size,1,none⟩=some (.slice E el.length ec)∧Wa.grownBy W' (some g))∧(∃K k,v=.slice K el.length k∧W'.ownsRow W.heap.size 77 4 (.slice K el.length k) el.length (flatK Elt.cells el)∧Below Wa.heap.size Wa W'∧Below W.heap.size W W')) (fun e' W' ⟨K,k,he,g1,g2⟩=>⟨_,he,SH.out W' (grownR_below hg' g2),K,k,rfl,g1,hb'.trans (g2.mono hb'.size),g2⟩))
   have HBA:=Lib.hid BA
   clear k1 k2 k3 BA
   go_wp2_with fail
   refine wp_region_held_drew (S:=fun W'=>W'.cell? ⟨w.heap.size,0,none⟩=some (.slice (some ⟨g,0,none⟩) c.ents.length e0)∧W'.cell? ⟨wr.heap.size,0,none⟩=some (.slice C cd.length cc)∧W'.cell? ⟨wr.heap.size,1,none⟩=some (.slice E el.length ec)∧Wa.grownBy W' (some g)) (by kernel_rfl) (SH.out _ (grownR_drew (grownR_refl Wa _))) (fun hHeld=>?_)
   refine tK 0 21 ?_
   refine tK 1 22 ?_
   refine tK 2 23 ?_
   refine tK 3 24 ?_
   refine tK 4 25 ?_
   refine tK 6 27 ?_
   refine tK 7 28 ?_
   refine qE 5 26 (TI.out _ (Below.refl _ _).drew (grownR_drew (grownR_refl Wa _))) ?_
   clear hHeld
   rintro _ W5 hHeld ⟨K,k,rfl,hK,hb5⟩
   refine qE 8 29 (TE.out _ hb5 hHeld.2.2.2) ?_
   clear hHeld
   rintro _ W6 hHeld ⟨D,dd,rfl,hD,hb6,hb56⟩
   refine tK 9 30 ?_
   refine tK 10 31 ?_
   obtain ⟨g',_,_,_,_,hE',_,_,e0',e1',f0',f1',_⟩:=(FRZ.out.below hb6).into.at hlt
   obtain rfl:g=g':=by injection hE' with hE';injection hE'
   clear hE'
   have g1':(W6.setCell ⟨g,i*2,none⟩ (.slice K cd.length k)).frozen? ⟨g,i*2+1,none⟩=false:=by simpa using f1'
   refine anyH_unit (w':=(W6.setCell ⟨g,i*2,none⟩ (.slice K cd.length k)).setCell ⟨g,i*2+1,none⟩ (.slice D el.length dd)) (i:=11) none rfl rfl (by kernel_rfl) (by rfl) (by go_simp) (SH.out _ (gr_set (p:=⟨g,i*2+1,none⟩) (gr_set (p:=⟨g,i*2,none⟩) (hHeld.2.2.2) _) _)) ?_
   try simp only [Act.put]
   refine wpAnyH_done (by kernel_rfl) ?_ _
   have hgr:=grownR_trans (grownR_below HW.out HBA.out) hHeld.2.2.2
   have hput:=PUT.out K k D dd Wa.heap.size W6 (FRZ.out.below hb6) (by omega) (own_keep hK hb56) (own_mono hD hb5.size) (fun q hq e=>by
    have h1:=(own_blk hK hq).2
    have h2:=(own_blk hD e).1
    omega)
   have HGR:=Lib.hid hgr
   have HPT:=Lib.hid hput
   clear hHeld SH TI TE FRZ e0' e1' f0' f1' g1' hgr hput hK hD hb5 hb6 hb56 PUT HMi HBA XA XRa HXr HXs
   go_wp2_with fail
   go_roundw
   case rel=>exact ⟨i+1,W6.heap.size,by omega,by go_num,HPT.out,gr_set (p:=⟨g,i*2+1,none⟩) (gr_set (p:=⟨g,i*2,none⟩) HGR.out _) _⟩
   case measure=>simp [intOf];omega
  ·obtain rfl:i=c.ents.length:=by omega
   have X0r:=HXr.out
   have c0:=X0r.cell (i:=0) rfl
   have c1:=X0r.cell (i:=1) rfl
   have c2:=X0r.cell (i:=2) rfl
   have c3:=X0r.cell (i:=3) rfl
   have c4:=X0r.cell (i:=4) rfl
   have X1r:=HXs.out
   have f0:=X1r.free 0
   have f1:=X1r.free 1
   have f2:=X1r.free 2
   have f3:=X1r.free 3
   have f4:=X1r.free 4
   have g0:=X1r.cell (i:=0) rfl
   have g1:=X1r.cell (i:=1) rfl
   have g2:=X1r.cell (i:=2) rfl
   have g3:=X1r.cell (i:=3) rfl
   have g4:=X1r.cell (i:=4) rfl
   have hwz:w.heap.size+1 < W1.heap.size:=hz3
   have MF:CpE (((((wr.setCell ⟨w.heap.size+1,0,none⟩ (.slice E0 c.ents.length e0)).setCell ⟨w.heap.size+1,1,none⟩ (.slice E1 c.grps.length e1)).setCell ⟨w.heap.size+1,2,none⟩ (.int .i64 c.base)).setCell ⟨w.heap.size+1,3,none⟩ (.int .i64 c.second)).setCell ⟨w.heap.size+1,4,none⟩ (.int .i64 c.third)) W1.heap.size (w.heap.size+1) E0 e0 c.ents c.ents.length top:=((((hm.off hwz ⟨w.heap.size+1,0,none⟩ rfl _).off hwz ⟨w.heap.size+1,1,none⟩ rfl _).off hwz ⟨w.heap.size+1,2,none⟩ rfl _).off hwz ⟨w.heap.size+1,3,none⟩ rfl _).off hwz ⟨w.heap.size+1,4,none⟩ rfl _
   have ZF:Box (((((wr.setCell ⟨w.heap.size+1,0,none⟩ (.slice E0 c.ents.length e0)).setCell ⟨w.heap.size+1,1,none⟩ (.slice E1 c.grps.length e1)).setCell ⟨w.heap.size+1,2,none⟩ (.int .i64 c.base)).setCell ⟨w.heap.size+1,3,none⟩ (.int .i64 c.second)).setCell ⟨w.heap.size+1,4,none⟩ (.int .i64 c.third)) (w.heap.size+1) 32 [.slice E0 c.ents.length e0,.slice E1 c.grps.length e1,.int .i64 c.base,.int .i64 c.second,.int .i64 c.third]:=((((X1r.set 0 _).set 1 _).set 2 _).set 3 _).set 4 _
   have GF:wr.grownBy (((((wr.setCell ⟨w.heap.size+1,0,none⟩ (.slice E0 c.ents.length e0)).setCell ⟨w.heap.size+1,1,none⟩ (.slice E1 c.grps.length e1)).setCell ⟨w.heap.size+1,2,none⟩ (.int .i64 c.base)).setCell ⟨w.heap.size+1,3,none⟩ (.int .i64 c.second)).setCell ⟨w.heap.size+1,4,none⟩ (.int .i64 c.third)) (some (w.heap.size+1)):=gr_set (p:=⟨w.heap.size+1,4,none⟩) (gr_set (p:=⟨w.heap.size+1,3,none⟩) (gr_set (p:=⟨w.heap.size+1,2,none⟩) (gr_set (p:=⟨w.heap.size+1,1,none⟩) (grown_set wr ⟨w.heap.size+1,0,none⟩ _) _) _) _) _
   have WFE:∃Wf,(((((wr.setCell ⟨w.heap.size+1,0,none⟩ (.slice E0 c.ents.length e0)).setCell ⟨w.heap.size+1,1,none⟩ (.slice E1 c.grps.length e1)).setCell ⟨w.heap.size+1,2,none⟩ (.int .i64 c.base)).setCell ⟨w.heap.size+1,3,none⟩ (.int .i64 c.second)).setCell ⟨w.heap.size+1,4,none⟩ (.int .i64 c.third))=Wf:=⟨_,rfl⟩
   have HHG:=Lib.hid hg
   clear hm hg X0r X1r HXr HXs
   go_wp2_with fail
   obtain ⟨Wf,hWf⟩:=WFE
   try rw [hWf] at MF ZF GF ⊢
   clear hWf
   have z0:=ZF.cell (i:=0) rfl
   have z1':=ZF.cell (i:=1) rfl
   have z2:=ZF.cell (i:=2) rfl
   have z3:=ZF.cell (i:=3) rfl
   have z4:=ZF.cell (i:=4) rfl
   (try simp only [Exit.inBlock,Exit.then])
   refine bodyPost_ret (results_col rfl _ _ (b:=w.heap.size+1) rfl z0 z1' z2 z3 z4) rfl ?_
   have hcf:Chg (fun q=>blk E0=some q∨q=w.heap.size+1) W2 Wf:=(Chg.of_grown HHG.out (fun q e=>.inl e)).trans (Chg.of_grown GF (fun q e=>.inr (by injection e with e;exact e.symm)))
   have h1:Grps Wf E1 c.grps:=hcf.sl (Sl.of_own HO1.out) (fun _ q hq hS=>by
    have b1:=Q1.out q hq
    rcases hS with g | g
    ·have:=HE1.out q g;omega
    ·omega)
   have bel:Below w.heap.size w Wf:=HB0.out.trans (hcf.below (n:=w.heap.size) (by omega) (fun k hk=>by
    rcases hk with g | g
    ·have:=HE1.out k g;omega
    ·omega))
   have o1:=HO1.out.kept HHG.out (by
    rw [ownBlock_blk]
    cases hq:blk E1 with
    | none=>exact .inl rfl
    | some q=>exact .inr (fun e=>by have:=Q1.out q hq;have:=HE1.out q e.symm;omega))
   have OGR:=own_mono (o1.kept GF (by
    rw [ownBlock_blk]
    cases hq:blk E1 with
    | none=>exact .inl rfl
    | some q=>exact .inr (fun e=>by have:=Q1.out q hq;injection e with e;omega))) (show w.heap.size≤W0.heap.size by omega)
   exact ⟨E0,e0,E1,e1,W1.heap.size,w.heap.size+1,top,rfl,MF,OGR,fun q hq=>(Q1.out q hq).2,HFIN.out E0 E1 Wf MF.into.is h1,by omega,hz3,bel⟩
end Go.Proofs.YtkhmjidaeliccaaGreatDoor
