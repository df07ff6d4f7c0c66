/- Texts that are merged into one file: TlIns, TlInsA, TlPut, TlPlace. -/
import Derived.Test.YtkhmjidaeliccaaGreatDoorB12
import Derived.Test.YtkhmjidaeliccaaGreatDoorB18
import Derived.Test.YtkhmjidaeliccaaGreatDoorB19
import Derived.Shelf.Spec.SlicesInsertGrow
import Derived.Deep.Cut
set_option maxRecDepth 100000
set_option maxHeartbeats 51200000
namespace Go.Proofs.YtkhmjidaeliccaaGreatDoor
open Go.Shelf Go.RowKit Go.Lib
theorem info_ent:(Tryz.prog.info? 75).map (fun i=>(i.zero,i.size,i.bytes))=some (some (.agg #[.slice none 0 0,.slice none 0 0]),2,48):=by kernel_rfl
theorem size_ent:(Tryz.prog.info? 75).map (·.size)=some 2:=by kernel_rfl
theorem run_copy_k {P:Program} (k:Nat) (w:World) (dT sT ty elem:TypeId) (b o dLen dCap:Nat) (a:Addr) (sLen sCap:Nat) (cs:List Value)
  (hu:P.underlying dT=some (.slice elem)) (hs:(P.info? elem).map (·.size)=some k) (hn:cs.length=Nat.min sLen dLen*k)
  (hsrc:∀j v,cs[j]?=some v→w.cell? (a.add j)=some v) (hc:∀j,j < cs.length→(w.cell? ⟨b,o+j,none⟩).isSome=true) (hf:∀j,j < cs.length→w.frozen? ⟨b,o+j,none⟩=false) (h1:∀v ∈ cs,v.oneCell'=true) :
  (Builtin.copy_ #[dT,sT] ty #[.slice (some ⟨b,o,none⟩) dLen dCap,.slice (some a) sLen sCap]).run P w=.ok (goInt (Nat.min sLen dLen)) (w.setCells b o cs):=by
 have hl:=run_loadCells_list (P:=P) w a cs hsrc
 have hst:=run_storeCells_cells (P:=P) b o cs 0 w (by simpa using hc) (by simpa using hf) h1
 cases hq:P.info? elem with
 | none=>simp [hq] at hs
 | some i=>
  have hi:i.size=k:=by simpa [hq] using hs
  rw [hn] at hl
  simp [Builtin.copy_,run_underlying hu,Builtin.lenOf,Builtin.firstCells,sizeOf,typeInfo,hq,hi,hl,hst]
theorem insE_shift (b n c i vb vc:Nat) (cs vs:List Value) (w:World) (hi:i < n) (hroom:n+1≤c) (hc63:c≤9223372036854775807) (hn:n≤1099511627776) (hvb:vb≠b)
  (hcl:cs.length=n*2) (hvl:vs.length=2)
  (hcs:∀j v,cs[j]?=some v→w.cell? ⟨b,j,none⟩=some v) (hsp:∀j,j < (n+1)*2→(w.cell? ⟨b,j,none⟩).isSome=true) (hfz:∀j,w.frozen? ⟨b,j,none⟩=false)
  (hvs:∀j v,vs[j]?=some v→w.cell? ⟨vb,j,none⟩=some v) (h1c:∀v ∈ cs,v.oneCell'=true) (h1v:∀v ∈ vs,v.oneCell'=true)
  (tA tB:TypeId) (kA kB:Nat) (hsa:w.shape? vb=some (tA,kA)) (hsb:w.shape? b=some (tB,kB)) (hkB:kB≠0) (hfa:w.frozen? ⟨vb,0,none⟩=false) (hfe:w.frozen? ⟨vb,kA,none⟩=false) :
  Calls Tryz.prog 87 #[.slice (some ⟨b,0,none⟩) n c,.int .i64 i,.slice (some ⟨vb,0,none⟩) 1 vc] w fun e w'=>
   e=.returned (.slice (some ⟨b,0,none⟩) (n+1) c)∧w'=(w.drew.setCells b ((i+1)*2) (cs.drop (i*2))).setCells b (i*2) vs:=by
 have mixed:Tryz.prog.follows Departure.mixedOrders=true:=by kernel_rfl
 have hz2:¬((i:Int)=(n:Int)):=by omega
 have hov:∀o lb cb,(callFunc 145 #[.slice (some ⟨vb,0,none⟩) 1 vc,.slice (some ⟨b,o,none⟩) lb cb]).run Tryz.prog w=.ok (.value (.bool false)) w:=fun o lb cb=>by
  rw [run_callFunc_extern Tryz.func145 (by kernel_rfl) (by kernel_rfl) (by kernel_rfl) (e:=Extern.SlicesOverlaps.overlaps #[29,29] #[4]) (by kernel_rfl),
   Lib.run_overlaps_apart w 29 4 75 Tryz.underlying29 2 Tryz.sizeOf75 ⟨vb,0,none⟩ ⟨b,o,none⟩ 1 vc lb cb hvb tA tB kA kB hsa hsb hkB hfa hfe]
  rfl
 have hdl:(cs.drop (i*2)).length=(n - i)*2:=by rw [List.length_drop,hcl];omega
 have hcp1:∀ty dc sc,(Builtin.copy_ #[29,29] ty #[.slice (some ⟨b,(i+1)*2,none⟩) (n - i) dc,.slice (some ⟨b,i*2,none⟩) (n+1 - i) sc]).run Tryz.prog w.drew=.ok (goInt (Nat.min (n+1 - i) (n - i))) (w.drew.setCells b ((i+1)*2) (cs.drop (i*2))):=fun ty dc sc=>
  run_copy_k 2 w.drew _ _ ty 75 b ((i+1)*2) (n - i) dc ⟨b,i*2,none⟩ (n+1 - i) sc (cs.drop (i*2)) Tryz.underlying29 size_ent (by rw [hdl];simp only [Nat.min_def];split <;> omega)
   (fun j v hj=>by rw [Addr.add_lit];exact hcs (i*2+j) v (by rwa [List.getElem?_drop] at hj))
   (fun j hj=>hsp _ (by rw [hdl] at hj;omega)) (fun j hj=>hfz _) (fun v hv=>h1c v (List.mem_of_mem_drop hv))
 obtain ⟨W1,hW1⟩:∃W1,W1=w.drew.setCells b ((i+1)*2) (cs.drop (i*2)):=⟨_,rfl⟩
 have hsp1:∀k,k < (n+1)*2→(W1.cell? ⟨b,k,none⟩).isSome=true:=fun k hk=>by
  rw [hW1]
  exact isSome_setCells b (cs.drop (i*2)) ((i+1)*2) w.drew (fun j hj=>hsp _ (by rw [hdl] at hj;omega)) k (hsp k hk)
 have hcp2:∀ty dc,(Builtin.copy_ #[29,29] ty #[.slice (some ⟨b,i*2,none⟩) (n+1 - i) dc,.slice (some ⟨vb,0,none⟩) 1 vc]).run Tryz.prog W1=.ok (goInt (Nat.min 1 (n+1 - i))) (W1.setCells b (i*2) vs):=fun ty dc=>
  run_copy_k 2 W1 _ _ ty 75 b (i*2) (n+1 - i) dc ⟨vb,0,none⟩ 1 vc vs Tryz.underlying29 size_ent (by rw [hvl];simp only [Nat.min_def];split <;> omega)
   (fun j v hj=>by
    rw [Addr.add_lit,hW1,World.cell?_setCells_out b _ _ _ _ (fun h _=>absurd h hvb),Nat.zero_add]
    exact hvs j v hj)
   (fun j hj=>hsp1 _ (by omega)) (fun j hj=>by rw [hW1,World.frozen?_setCells];exact hfz _) h1v
 rw [←hW1] at hcp1 ⊢
 clear hW1 hsp1 hcs hsp hfz hvs hsa hsb hfa hfe hdl
 have hw1:IntKind.i64.wrap ((i:Int)+1)=(i:Int)+1:=by rw [IntKind.wrap_i64];omega
 have hb1:(0:Int)≤(i:Int)+1:=by omega
 have htn:((i:Int)+1).toNat=i+1:=by omega
 have hle1:(i:Int)+1≤(n:Int)+1:=by omega
 have hle2:(i:Int)≤(n:Int)+1:=by omega
 have hin:i≤n:=by omega
 have hb2:¬(c=i+1):=by omega
 have hb4:¬(c=i):=by omega
 go_enter Tryz.func87,Tryz.ntmps87
 go_wp2_with (simp only [hov])
 go_region_law_o (refine step_copy_runI rfl _ _ 29 29 rfl _ _ (by simp [Act.eval,Act.put]) (by simp [Act.eval,Act.put]) (hcp1 _ _ _) ?_)
 go_wp2_with (at_builtin;refine wpList_copy_runI _ rfl _ _ 29 29 rfl _ _ rfl rfl (hcp2 _ _) ?_)
 go_ret
 exact ⟨rfl,rfl⟩
theorem insE_grow (b n c i vb vc:Nat) (cs vs:List Value) (w:World) (hi:i < n) (hnc:n≤c) (hroom:c < n+1) (hn:n≤1048576) (hbw:b < w.heap.size) (hvw:vb < w.heap.size)
  (hcl:cs.length=n*2) (hvl:vs.length=2)
  (hcs:∀j v,cs[j]?=some v→w.cell? ⟨b,j,none⟩=some v)
  (hvs:∀j v,vs[j]?=some v→w.cell? ⟨vb,j,none⟩=some v) (h1c:∀v ∈ cs,v.oneCell'=true) (h1v:∀v ∈ vs,v.oneCell'=true) :
  Calls Tryz.prog 87 #[.slice (some ⟨b,0,none⟩) n c,.int .i64 i,.slice (some ⟨vb,0,none⟩) 1 vc] w fun e w'=>
   ∃ROW:Array Value,n+1≤grownCap w (n+1) c 75∧grownCap w (n+1) c 75≤maxLen∧ROW.size=grownCap w (n+1) c 75*2∧ROW.toList.take (i*2)=cs.take (i*2)∧e=.returned (.slice (some ⟨w.heap.size,0,none⟩) (n+1) (grownCap w (n+1) c 75))∧
   w'=(((w.alloc (.cells ROW 75)).drew.setCells w.heap.size (i*2) vs).drew).setCells w.heap.size ((i+1)*2) (cs.drop (i*2)):=by
 obtain ⟨i0,hi0,hz0,hzs,hzb⟩:=info_parts info_ent
 have mixed:Tryz.prog.follows Departure.mixedOrders=true:=by kernel_rfl
 have hz2:¬((i:Int)=(n:Int)):=by omega
 have hz3:(c:Int) < (n:Int)+1:=by omega
 have hkk:(n:Int)+1 - (i:Int)=((n+1 - i:Nat):Int):=by omega
 have hik:i+(n+1 - i)=n+1:=by omega
 have hold:(Builtin.firstCells i0.size i (.slice (some ⟨b,0,none⟩) i c)).run Tryz.prog w.drew=.ok (cs.take (i*2)).toArray w.drew:=by
  rw [hzs]
  exact run_firstCells_some w.drew 2 i ⟨b,0,none⟩ i c (cs.take (i*2)) (by rw [List.length_take];omega) (fun j v hj=>by
   rw [Addr.add_lit,Nat.zero_add]
   rw [List.getElem?_take] at hj
   split at hj
   ·exact hcs j v hj
   ·cases hj)
 have hrz:∀ty,(Builtin.append_ #[29,3] ty #[.slice (some ⟨b,0,none⟩) i c,.int .i64 ((n:Int)+1 - (i:Int))]).run Tryz.prog w =
   .ok (.slice (some ⟨w.heap.size,0,none⟩) (n+1) (grownCap w (n+1) c 75)) (w.drew.alloc (.cells ((cs.take (i*2)).toArray++Builtin.zeroCells (Value.agg #[.slice none 0 0,.slice none 0 0]).cells (n+1 - i)++Builtin.zeroCells (Value.agg #[.slice none 0 0,.slice none 0 0]).cells (grownCap w (n+1) c 75 - (n+1))) 75)):=fun ty=>by
  have h:=Lib.run_append_grow_zeros w 29 3 ty 75 i0 _ .i64 .i64 Tryz.underlying29 Tryz.underlying3 hi0 hz0 (some ⟨b,0,none⟩) i c (cs.take (i*2)) hold (n+1 - i) (by omega) (by omega) (by omega) (by omega) (by rw [hzb];omega) (by rw [hzb,hik];exact growslice_fits hroom (by omega))
  rw [hik] at h
  rw [hkk]
  exact h
 have hGn:n+1≤grownCap w (n+1) c 75:=grownCap_ge w _ _ _
 have hGm:=grownCap_le_maxLen w (n+1) c 75 (by unfold maxLen;omega)
 obtain ⟨G,hG⟩:∃G,G=grownCap w (n+1) c 75:=⟨_,rfl⟩
 rw [←hG] at hrz hGn hGm ⊢
 have hzc:(Value.agg #[.slice none 0 0,.slice none 0 0]).cells.size=2:=rfl
 obtain ⟨ROW,hROW⟩:∃ROW:Array Value,ROW=(cs.take (i*2)).toArray++Builtin.zeroCells (Value.agg #[.slice none 0 0,.slice none 0 0]).cells (n+1 - i)++Builtin.zeroCells (Value.agg #[.slice none 0 0,.slice none 0 0]).cells (G - (n+1)):=⟨_,rfl⟩
 rw [←hROW] at hrz
 have hRl:ROW.size=G*2:=by
  have e1:=size_zeroCells (Value.agg #[.slice none 0 0,.slice none 0 0]).cells (n+1 - i)
  have e2:=size_zeroCells (Value.agg #[.slice none 0 0,.slice none 0 0]).cells (G - (n+1))
  rw [hzc] at e1 e2
  rw [hROW,Array.size_append,Array.size_append,e1,e2]
  simp
  omega
 have hRt:ROW.toList.take (i*2)=cs.take (i*2):=by
  rw [hROW,Array.toList_append,Array.toList_append,List.append_assoc,List.take_append_of_le_length (by simp;omega),List.take_of_length_le (by simp;omega)]
 obtain ⟨W1,hW1⟩:∃W1,W1=w.drew.alloc (.cells ROW 75):=⟨_,rfl⟩
 rw [←hW1] at hrz
 have hN:∀j,j < (n+1)*2→(W1.cell? ⟨w.heap.size,j,none⟩).isSome=true:=fun j hj=>by
  rw [hW1,World.cell?_alloc_at (w:=w.drew) ROW _ w.heap.size j rfl,Array.getElem?_eq_getElem (by omega)];rfl
 have hNf:∀j,W1.frozen? ⟨w.heap.size,j,none⟩=false:=fun j=>by rw [hW1];exact World.frozen?_alloc_at (w:=w.drew) ROW _ w.heap.size j rfl
 have hOb:∀j v,w.cell? ⟨b,j,none⟩=some v→W1.cell? ⟨b,j,none⟩=some v:=fun j v h=>by rw [hW1,World.cell?_alloc_past (w:=w.drew) _ b j hbw];exact h
 have hOv:∀j v,w.cell? ⟨vb,j,none⟩=some v→W1.cell? ⟨vb,j,none⟩=some v:=fun j v h=>by rw [hW1,World.cell?_alloc_past (w:=w.drew) _ vb j hvw];exact h
 have hcpA:∀(W:World),(∀x,W.cell? x=W1.cell? x)→(∀x,W.frozen? x=W1.frozen? x)→∀ty dc,(Builtin.copy_ #[29,29] ty #[.slice (some ⟨w.heap.size,i*2,none⟩) (n+1 - i) dc,.slice (some ⟨vb,0,none⟩) 1 vc]).run Tryz.prog W=.ok (goInt (Nat.min 1 (n+1 - i))) (W.setCells w.heap.size (i*2) vs):=fun W hWc hWf ty dc=>
  run_copy_k 2 W _ _ ty 75 w.heap.size (i*2) (n+1 - i) dc ⟨vb,0,none⟩ 1 vc vs Tryz.underlying29 size_ent (by rw [hvl];simp only [Nat.min_def];split <;> omega)
   (fun j v hj=>by rw [Addr.add_lit,hWc,Nat.zero_add];exact hOv _ v (hvs j v hj))
   (fun j hj=>by rw [hWc];exact hN _ (by omega)) (fun j hj=>by rw [hWf];exact hNf _) h1v
 have hG63:G≤9223372036854775807:=by unfold maxLen at hGm;omega
 have hGi:¬(G=i):=by omega
 have hGim:¬(G=i+1):=by omega
 have hci:¬(c=i):=by omega
 have hbN:b≠w.heap.size:=by omega
 have hdl:(cs.drop (i*2)).length=(n - i)*2:=by rw [List.length_drop,hcl];omega
 have hcpB:∀(W:World),(∀x,W.cell? x=(W1.setCells w.heap.size (i*2) vs).cell? x)→(∀x,W.frozen? x=(W1.setCells w.heap.size (i*2) vs).frozen? x)→∀ty dc sc,(Builtin.copy_ #[29,29] ty #[.slice (some ⟨w.heap.size,(i+1)*2,none⟩) (n - i) dc,.slice (some ⟨b,i*2,none⟩) (n - i) sc]).run Tryz.prog W=.ok (goInt (Nat.min (n - i) (n - i))) (W.setCells w.heap.size ((i+1)*2) (cs.drop (i*2))):=fun W hWc hWf ty dc sc=>
  run_copy_k 2 W _ _ ty 75 w.heap.size ((i+1)*2) (n - i) dc ⟨b,i*2,none⟩ (n - i) sc (cs.drop (i*2)) Tryz.underlying29 size_ent (by rw [hdl];simp only [Nat.min_def];split <;> omega)
   (fun j v hj=>by
    rw [Addr.add_lit,hWc,World.cell?_setCells_out _ _ _ _ _ (fun h _=>absurd h hbN)]
    exact hOb _ v (hcs (i*2+j) v (by rwa [List.getElem?_drop] at hj)))
   (fun j hj=>by rw [hdl] at hj;rw [hWc];exact isSome_setCells _ _ _ _ (fun t ht=>hN _ (by omega)) _ (hN _ (by omega)))
   (fun j hj=>by rw [hWf,World.frozen?_setCells];exact hNf _) (fun v hv=>h1c v (List.mem_of_mem_drop hv))
 subst hW1
 have hE1:∀x,((w.alloc (.cells ROW 75)).drew).cell? x=(w.drew.alloc (.cells ROW 75)).cell? x:=fun x=>rfl
 have hE2:∀x,((w.alloc (.cells ROW 75)).drew).frozen? x=(w.drew.alloc (.cells ROW 75)).frozen? x:=fun x=>rfl
 have hF1:∀x,(((w.alloc (.cells ROW 75)).drew.setCells w.heap.size (i*2) vs).drew).cell? x=((w.drew.alloc (.cells ROW 75)).setCells w.heap.size (i*2) vs).cell? x:=fun x=>rfl
 have hF2:∀x,(((w.alloc (.cells ROW 75)).drew.setCells w.heap.size (i*2) vs).drew).frozen? x=((w.drew.alloc (.cells ROW 75)).setCells w.heap.size (i*2) vs).frozen? x:=fun x=>rfl
 have HEND:=Lib.hid (fun e' w' (h1:e'=Ending.returned (.slice (some ⟨w.heap.size,0,none⟩) (n+1) G)) (h2:w'=(((w.alloc (.cells ROW 75)).drew.setCells w.heap.size (i*2) vs).drew).setCells w.heap.size ((i+1)*2) (cs.drop (i*2)))=>show ∃ROW:Array Value,n+1≤G∧G≤maxLen∧ROW.size=G*2∧ROW.toList.take (i*2)=cs.take (i*2)∧e'=.returned (.slice (some ⟨w.heap.size,0,none⟩) (n+1) G)∧w'=(((w.alloc (.cells ROW 75)).drew.setCells w.heap.size (i*2) vs).drew).setCells w.heap.size ((i+1)*2) (cs.drop (i*2)) from ⟨ROW,hGn,hGm,hRl,hRt,h1,h2⟩)
 have hw1:IntKind.i64.wrap ((i:Int)+1)=(i:Int)+1:=by rw [IntKind.wrap_i64];omega
 have hb1:(0:Int)≤(i:Int)+1:=by omega
 have htn:((i:Int)+1).toNat=i+1:=by omega
 have hle1:(i:Int)+1≤(n:Int)+1:=by omega
 have hle2:(i:Int)≤(n:Int)+1:=by omega
 have hin:i≤n:=by omega
 have hb3:(i:Int)≤(n:Int):=by omega
 clear hkk hik hold hROW hG hRl hRt hzs hzb hz0 hi0 hzc hdl hcl hvl hcs hvs
 go_enter Tryz.func87,Tryz.ntmps87
 go_wp2_with (first
  | (at_builtin;refine Lib.wpList_append_run _ rfl _ _ _ _ rfl _ _ rfl rfl _ _ (hrz _) ?_)
  | (at_builtin;refine wpList_copy_runI _ rfl _ _ 29 29 rfl _ _ rfl rfl (hcpA _ hE1 hE2 _ _) ?_)
  | (at_builtin;refine wpList_copy_runI _ rfl _ _ 29 29 rfl _ _ rfl rfl (hcpB _ (fun _=>rfl) (fun _=>rfl) _ _ _) ?_))
 go_region_law_o (refine step_copy_runI rfl _ _ 29 29 rfl (.slice (some ⟨w.heap.size,(i+1)*2,none⟩) (n - i) (G - (i+1))) (.slice (some ⟨b,i*2,none⟩) (n - i) (c - i)) (by simp [Act.eval,Act.put]) (by simp [Act.eval,Act.put]) (hcpB _ hF1 hF2 3 (G - (i+1)) (c - i)) ?_)
 go_wp2
 go_ret
 exact HEND.out _ _ rfl rfl
end Go.Proofs.YtkhmjidaeliccaaGreatDoor
namespace Go.Proofs.YtkhmjidaeliccaaGreatDoor
open Go.Shelf Go.RowKit Go.Lib
theorem ins_spl {L D vs:List Value} {p N k:Nat} (hD:D.length=N) (hL:L.take N=D) (hl:N+k≤L.length) (hp:p≤N) (hk:vs.length=k):(splice (splice L (p+k) (D.drop p)) p vs).take (N+k)=D.take p++(vs++D.drop p)∧(splice (splice L (p+k) (D.drop p)) p vs).length=L.length:=by
 have h1:p+k+(D.drop p).length=N+k:=by rw [List.length_drop];omega
 have l1:(splice L (p+k) (D.drop p)).length=L.length:=length_splice _ _ _ (by omega)
 refine ⟨?_,by rw [length_splice _ _ _ (by rw [l1];omega),l1]⟩
 have ei:L.take p=D.take p:=by rw [←hL,List.take_take,Nat.min_eq_left hp]
 have e1:(splice L (p+k) (D.drop p)).take p=D.take p:=by
  unfold splice
  rw [List.take_append_of_le_length (by rw [List.length_take];omega),List.take_take,Nat.min_eq_left (by omega),ei]
 have e2:(splice L (p+k) (D.drop p)).drop (p+k)=D.drop p++L.drop (N+k):=by
  unfold splice
  rw [List.drop_append_of_le_length (by rw [List.length_take];omega),List.drop_of_length_le (by rw [List.length_take];omega),List.nil_append,h1]
 generalize splice L (p+k) (D.drop p)=X at *
 unfold splice
 rw [hk,e1,e2]
 have e:D.take p++(vs++(D.drop p++L.drop (N+k)))=(D.take p++(vs++D.drop p))++L.drop (N+k):=by simp
 have el:(D.take p++(vs++D.drop p)).length=N+k:=by simp [hD,hk];omega
 rw [e,List.take_append_of_le_length (by omega),List.take_of_length_le (by omega)]
theorem grow_spl {L D vs:List Value} {p N k:Nat} (hD:D.length=N) (hL:L.take p=D.take p) (hl:N+k≤L.length) (hp:p≤N) (hk:vs.length=k):(splice (splice L p vs) (p+k) (D.drop p)).take (N+k)=D.take p++(vs++D.drop p)∧(splice (splice L p vs) (p+k) (D.drop p)).length=L.length:=by
 have h1:p+k+(D.drop p).length=N+k:=by rw [List.length_drop];omega
 have l1:(splice L p vs).length=L.length:=length_splice _ _ _ (by omega)
 refine ⟨?_,by rw [length_splice _ _ _ (by omega),l1]⟩
 have e1:(splice L p vs).take (p+k)=D.take p++vs:=by
  unfold splice
  have el:(D.take p++vs).length=p+k:=by simp [hD,hk];omega
  rw [hL,←List.append_assoc,List.take_append_of_le_length (by omega),List.take_of_length_le (by omega)]
 generalize splice L p vs=X at *
 unfold splice
 have el:(D.take p++(vs++D.drop p)).length=N+k:=by simp [hD,hk];omega
 have e:D.take p++vs++(D.drop p++X.drop (p+k+(D.drop p).length))=(D.take p++(vs++D.drop p))++X.drop (p+k+(D.drop p).length):=by simp
 rw [e1,e,List.take_append_of_le_length (by omega),List.take_of_length_le (by omega)]
def insE {α:Type} (xs:List α) (i:Nat) (x:α):List α:=xs.take i++x::xs.drop i
theorem flatK_take {α:Type} (enc:α→List Value) (k:Nat) (hk:∀x,(enc x).length=k) (xs:List α) (i:Nat) (hi:i≤xs.length):(flatK enc xs).take (i*k)=flatK enc (xs.take i)∧(flatK enc xs).drop (i*k)=flatK enc (xs.drop i):=by
 have e:=flatK_append (enc:=enc) (xs.take i) (xs.drop i)
 rw [List.take_append_drop] at e
 have l:=flatK_len enc k hk (xs.take i)
 rw [List.length_take,Nat.min_eq_left hi] at l
 rw [e]
 exact ⟨by rw [List.take_append_of_le_length (by omega),List.take_of_length_le (by omega)],by rw [List.drop_append_of_le_length (by omega),List.drop_of_length_le (by omega),List.nil_append]⟩
theorem flatK_ins {α:Type} (enc:α→List Value) (k:Nat) (hk:∀x,(enc x).length=k) (xs:List α) (i:Nat) (hi:i≤xs.length) (x:α):flatK enc (insE xs i x)=(flatK enc xs).take (i*k)++(enc x++(flatK enc xs).drop (i*k)):=by
 obtain ⟨e1,e2⟩:=flatK_take enc k hk xs i hi
 rw [e1,e2]
 unfold insE
 rw [flatK_append]
 rfl
theorem own_of_boxK {w:World} {base g n c:Nat} {t:TypeId} {k:Nat} {L xs:List Value} (h:Box w g t L) (hb:base≤g) (hc:L.length=c*k) (hn:n≤c) (hm:c≤maxLen) (ht:L.take (n*k)=xs) (hx:xs.length=n*k):w.ownsRow base t k (.slice (some ⟨g,0,none⟩) n c) n xs:=
 ⟨hx,.inr ⟨g,c,L.toArray,rfl,hb,h,hn,hm,by simp [hc],by simpa using ht⟩⟩
def RetInsE (vs:List (Value × Value)) (i:Nat) (x:Value × Value) (base:Nat) (A:Option Addr) (w:World) (e:Ending) (w':World):Prop:=∃B k,e=.returned (.slice B (vs.length+1) k)∧w'.ownsRow base 75 2 (.slice B (vs.length+1) k) (vs.length+1) (flatK enC (insE vs i x))∧w.grownBy w' (blk A)∧(blk B=blk A∨blk B=some w.heap.size)
theorem insE_any (A:Option Addr) (n c base i:Nat) (ps:List (Value × Value)) (x:Value × Value) (vb vc:Nat) (w:World) (h:w.ownsRow base 75 2 (.slice A n c) n (flatK enC ps)) (hbase:base≤w.heap.size) (hn:ps.length=n) (hi:i≤n) (hv:Box w vb 75 [x.1,x.2]) (hvb:∀g,blk A=some g→vb≠g) (hb:n≤1048576) (h1c:∀v ∈ flatK enC ps,v.oneCell'=true) (h1v:x.1.oneCell'=true∧x.2.oneCell'=true) :
  Calls Tryz.prog 87 #[.slice A n c,.int .i64 i,.slice (some ⟨vb,0,none⟩) 1 vc] w (RetInsE ps i x base A w):=by
 subst hn
 have hvs:∀j v,[x.1,x.2][j]?=some v→w.cell? ⟨vb,j,none⟩=some v:=fun j v hj=>hv.cell hj
 have h1v':∀v ∈ [x.1,x.2],v.oneCell'=true:=by intro v hv;simp at hv;rcases hv with rfl | rfl;exact h1v.1;exact h1v.2
 have hcl:(flatK enC ps).length=ps.length*2:=flatK_len enC 2 (fun _=>rfl) ps
 have hil:(flatK enC (insE ps i x)).length=(ps.length+1)*2:=by
  rw [flatK_len enC 2 (fun _=>rfl)]
  unfold insE
  simp
  omega
 have hfl:=flatK_ins enC 2 (fun _=>rfl) ps i hi x
 by_cases hin:i < ps.length
 ·rcases h.2 with ⟨_,h0⟩ | ⟨g,cap,cur,hvv,h1,h2,h3,h4,h5,h6⟩
  ·omega
  injection hvv with hA _ hc
  subst hA;subst hc
  have hX:Box w g 75 cur.toList:=h2
  have hcl2:cur.toList.length=c*2:=by simpa using h5
  have hne:vb≠g:=hvb g rfl
  have hcs:∀j v,(flatK enC ps)[j]?=some v→w.cell? ⟨g,j,none⟩=some v:=fun j v hj=>by
   rw [←h6] at hj
   exact hX.cell (by rw [List.getElem?_take] at hj;split at hj;exact hj;cases hj)
  by_cases hroom:ps.length+1≤c
  ·have hsz:∀j,j < (ps.length+1)*2→(w.cell? ⟨g,j,none⟩).isSome=true:=fun j hj=>by rw [hX.cell (List.getElem?_eq_getElem (by omega))];rfl
   refine (insE_shift g ps.length c i vb vc (flatK enC ps) [x.1,x.2] w hin hroom (by unfold maxLen at h4;omega) (by omega) hne hcl rfl hcs hsz (fun j=>hX.free _) hvs h1c h1v' 75 75 2 (c*2) (by unfold Box at hv;simp [World.shape?,hv]) (by unfold Box at hX;simp [World.shape?,hX,h5]) (by omega) (hv.free _) (hv.free _)).mono ?_
   rintro e w' ⟨rfl,rfl⟩
   obtain ⟨s1,s2⟩:=ins_spl (vs:=[x.1,x.2]) (p:=i*2) (k:=2) hcl h6 (by omega) (by omega) rfl
   have hX1:Box w.drew g 75 cur.toList:=hX
   have hX2:=box_setCells ((flatK enC ps).drop (i*2)) ((i+1)*2) hX1 (by simp [hcl];omega)
   have hX3:=box_setCells [x.1,x.2] (i*2) hX2 (by rw [length_splice _ _ _ (by simp [hcl];omega)];simp;omega)
   rw [show (i+1)*2=i*2+2 by omega] at hX3 ⊢
   refine ⟨_,_,rfl,own_of_boxK hX3 h1 (by rw [s2,hcl2]) hroom h4 (by rw [show (ps.length+1)*2=ps.length*2+2 by omega,s1,hfl];rfl) hil,grown_setCells _ _ (grown_setCells _ _ (grownR_drew (grownR_refl w _))),.inl rfl⟩
  ·refine (insE_grow g ps.length c i vb vc (flatK enC ps) [x.1,x.2] w hin h3 (by omega) hb hX.lt hv.lt hcl rfl hcs hvs h1c h1v').mono ?_
   rintro e w' ⟨ROW,hG1,hG2,hR1,hR2,rfl,rfl⟩
   generalize grownCap w (ps.length+1) c 75=G at *
   have hX0:=Box.newA w 75 ROW
   have hl0:ROW.toList.length=G*2:=by simpa using hR1
   have hX1:Box (w.alloc (.cells ROW 75)).drew w.heap.size 75 ROW.toList:=hX0
   have hX2:=box_setCells [x.1,x.2] (i*2) hX1 (by rw [hl0];simp;omega)
   have hX3:Box ((w.alloc (.cells ROW 75)).drew.setCells w.heap.size (i*2) [x.1,x.2]).drew w.heap.size 75 _:=hX2
   have hX4:=box_setCells ((flatK enC ps).drop (i*2)) ((i+1)*2) hX3 (by rw [length_splice _ _ _ (by rw [hl0];simp;omega),hl0,List.length_drop,hcl];omega)
   obtain ⟨s1,s2⟩:=grow_spl (vs:=[x.1,x.2]) (L:=ROW.toList) (p:=i*2) (k:=2) hcl hR2 (by rw [hl0];omega) (by omega) rfl
   rw [show (i+1)*2=i*2+2 by omega] at hX4 ⊢
   refine ⟨_,_,rfl,own_of_boxK hX4 hbase (by rw [s2,hl0]) hG1 hG2 (by rw [show (ps.length+1)*2=ps.length*2+2 by omega,s1,hfl];rfl) hil,?_,.inr rfl⟩
   exact gr_setCells_new _ _ (grownR_drew (gr_setCells_new _ _ (grownR_drew (gr_alloc (grownR_refl w _) _)) (Nat.le_refl _))) (Nat.le_refl _)
 ·obtain rfl:i=ps.length:=by omega
  have hsl:Sl w (some ⟨vb,0,none⟩) [x.1,x.2]:=fun _=>⟨vb,0,rfl,fun j v hj=>by rw [Nat.zero_add];exact hvs j v hj⟩
  have HFIN:=Lib.hid (fun B k w' (h2:w'.ownsRow base 75 2 (.slice B (ps.length+1) k) (ps.length+1) (flatK enC ps++[x.1,x.2])) (h5:w.grownBy w' (Value.ownBlock (.slice A ps.length c))) (h6:B=A∨B=some ⟨w.heap.size,0,none⟩)=>show RetInsE ps ps.length x base A w (.returned (.slice B (ps.length+1) k)) w' from ⟨B,k,rfl,by rw [hfl,List.take_of_length_le (by omega),List.drop_of_length_le (by omega),List.append_nil];exact h2,by rw [ownBlock_blk] at h5;exact h5,by rcases h6 with rfl | rfl;exact .inl rfl;exact .inr rfl⟩)
  clear hfl hil hvs hv
  go_enter Tryz.func87,Tryz.ntmps87
  go_wp2_with (at_builtin;refine wpList_app _ _ 29 75 (.agg #[.slice none 0 0,.slice none 0 0]) 2 48 rfl rfl Tryz.underlying29 info_ent rfl (by decide) (by decide) rfl h rfl hsl (by simp) h1v' (by omega) hbase ?_;intro B1 c1 w1 hown1 hc1 hb1 hg1 ho1)
  all_goals (
   go_ret
   exact HFIN.out _ _ _ hown1 hg1 ho1)
end Go.Proofs.YtkhmjidaeliccaaGreatDoor
namespace Go.Proofs.YtkhmjidaeliccaaGreatDoor
open Go.RowKit Go.Maps Go.WideMaps Tl
section
variable {es:List Ent} {x:Ent} {i:Nat} {f:Bool}
theorem take_lt (h:SrchE es x.codes i f):(es.take i).filter (fun y=>decide (cmpL y.codes x.codes < 0))=es.take i∧(es.take i).filter (fun y=>decide (0 < cmpL y.codes x.codes))=[]:=by
 have hall:∀y ∈ es.take i,cmpL y.codes x.codes < 0:=fun y hy=>by
  obtain ⟨t,ht,rfl⟩:=List.getElem_of_mem hy
  rw [List.getElem_take]
  have:=h.le
  rw [List.length_take] at ht
  exact h.lo t (by omega) (by omega)
 exact ⟨List.filter_eq_self.2 fun y hy=>by simpa using hall y hy,List.filter_eq_nil_iff.2 fun y hy=>by have:=hall y hy;simp;omega⟩
theorem drop_ge (h:SrchE es x.codes i f):(es.drop i).filter (fun y=>decide (cmpL y.codes x.codes < 0))=[]:=by
 refine List.filter_eq_nil_iff.2 fun y hy=>?_
 obtain ⟨t,ht,rfl⟩:=List.getElem_of_mem hy
 rw [List.getElem_drop]
 have ht2:i+t < es.length:=by rw [List.length_drop] at ht;omega
 have:=h.hi (i+t) ht2 (by omega)
 simp
 omega
theorem put_new (hs:es.Pairwise (fun x y=>cmpL x.codes y.codes < 0)) (h:SrchE es x.codes i false):insE es i x=putE es x:=by
 obtain ⟨e1,e2⟩:=take_lt h
 have e3:=drop_ge h
 have hnf:¬∃g:i < es.length,cmpL es[i].codes x.codes=0:=by simpa using h.fd.symm
 unfold putE insE
 conv=>rhs;rw [←List.take_append_drop i es]
 rw [List.filter_append,List.filter_append,e1,e2,e3,List.append_nil,List.nil_append]
 congr 2
 refine (List.filter_eq_self.2 fun y hy=>?_).symm
 obtain ⟨t,ht,rfl⟩:=List.getElem_of_mem hy
 have ht2:i+t < es.length:=by rw [List.length_drop] at ht;omega
 rw [List.getElem_drop]
 have h1:=h.hi (i+t) ht2 (by omega)
 simp only [decide_eq_true_eq]
 refine Int.lt_iff_le_and_ne.2 ⟨h1,fun e=>?_⟩
 have hc:=(cmpL_eq_zero _ _).1 e.symm
 by_cases ht0:t=0
 ·subst ht0
  exact hnf ⟨by omega,e.symm⟩
 ·have h2:=List.pairwise_iff_getElem.1 hs i (i+t) (by omega) ht2 (by omega)
  rw [hc] at h2
  have h3:=h.hi i (by omega) (Nat.le_refl _)
  omega
theorem put_old (hs:es.Pairwise (fun x y=>cmpL x.codes y.codes < 0)) (h:SrchE es x.codes i true):∃hi:i < es.length,es[i].codes=x.codes∧es.set i x=putE es x:=by
 obtain ⟨e1,e2⟩:=take_lt h
 have e3:=drop_ge h
 obtain ⟨hi,h0⟩:∃g:i < es.length,cmpL es[i].codes x.codes=0:=by simpa using h.fd.symm
 have hc:=(cmpL_eq_zero _ _).1 h0
 refine ⟨hi,hc,?_⟩
 unfold putE
 conv=>rhs;rw [←List.take_append_drop i es]
 rw [List.filter_append,List.filter_append,e1,e2,e3,List.append_nil,List.nil_append]
 rw [List.set_eq_take_append_cons_drop,if_pos hi]
 congr 2
 rw [List.drop_eq_getElem_cons hi,List.filter_cons,if_neg (by simp [h0])]
 refine (List.filter_eq_self.2 fun y hy=>?_).symm
 obtain ⟨t,ht,rfl⟩:=List.getElem_of_mem hy
 have ht2:i+1+t < es.length:=by rw [List.length_drop] at ht;omega
 rw [List.getElem_drop]
 have h1:=List.pairwise_iff_getElem.1 hs i (i+1+t) hi ht2 (by omega)
 rw [hc] at h1
 simp only [decide_eq_true_eq]
 rw [Pk.cmp_neg]
 omega
end
theorem insE_len {α:Type} {xs:List α} {i:Nat} (hi:i≤xs.length) (x:α):(insE xs i x).length=xs.length+1:=by unfold insE;simp;omega
theorem insE_lo {α:Type} {xs:List α} {i j:Nat} (x:α) (hj:j < i) (hi:j < xs.length) (h:j < (insE xs i x).length):(insE xs i x)[j]=xs[j]:=by
 have e:(insE xs i x)[j]?=xs[j]?:=by unfold insE;rw [List.getElem?_append_left (by simp;omega),List.getElem?_take,if_pos hj]
 rw [List.getElem?_eq_getElem h,List.getElem?_eq_getElem hi] at e
 exact Option.some.inj e
theorem insE_eq {α:Type} {xs:List α} {i:Nat} (x:α) (hi:i≤xs.length) (h:i < (insE xs i x).length):(insE xs i x)[i]=x:=by
 have e:(insE xs i x)[i]?=some x:=by
  unfold insE
  rw [List.getElem?_append_right (by simp;omega)]
  simp [Nat.min_eq_left hi]
 rw [List.getElem?_eq_getElem h] at e
 exact Option.some.inj e
theorem insE_hi {α:Type} {xs:List α} {i j:Nat} (x:α) (hj:i < j) (hi:j - 1 < xs.length) (h:j < (insE xs i x).length):(insE xs i x)[j]=xs[j - 1]:=by
 have e:(insE xs i x)[j]?=xs[j - 1]?:=by
  unfold insE
  rw [List.getElem?_append_right (by simp;omega)]
  have hm:(xs.take i).length=i:=by simp;omega
  rw [hm,show j - i=(j - i - 1)+1 by omega,List.getElem?_cons_succ,List.getElem?_drop,show i+(j - i - 1)=j - 1 by omega]
 rw [List.getElem?_eq_getElem h,List.getElem?_eq_getElem hi] at e
 exact Option.some.inj e
section
variable {w w':World} {base z:Nat} {A:Option Addr} {cap:Nat} {vs:List (Value × Value)} {m:Nat→Nat} {top:Nat} {xs:List Ent}
theorem OpV.hdr (h:OpV w base z A cap vs m top xs) (hg:w.grownBy w' (blk A)):∀i,(hi:i < xs.length)→(hv:i < vs.length)→EntV w' vs[i] xs[i]:=fun i hi hv=>by
 obtain ⟨C,c,E,d,e1,e2,e3,e4,e5,e6⟩:=h.rows i hi hv
 have hm:=mono_up h.mono i (by omega)
 refine ⟨C,c,E,d,e1,Sl.of_own (e2.kept hg ?_),Sl.of_own (e3.kept hg ?_)⟩
 ·rw [ownBlock_blk]
  cases hc:blk C with
  | none=>exact .inl rfl
  | some q=>exact .inr (fun e=>by have:=h.bm q e.symm;have:=(own_blk e2 hc).1;omega)
 ·rw [ownBlock_blk]
  cases hc:blk E with
  | none=>exact .inl rfl
  | some q=>exact .inr (fun e=>by have:=h.bm q e.symm;have:=(own_blk e3 hc).1;omega)
theorem own_chg {Z:Nat→Prop} {base:Nat} {e:TypeId} {size n c:Nat} {A:Option Addr} {cs:List Value} {w w':World} (h:w.ownsRow base e size (.slice A n c) n cs) (hc:Chg Z w w') (hn:∀q,blk A=some q→¬Z q):w'.ownsRow base e size (.slice A n c) n cs:=by
 refine ⟨h.1,?_⟩
 rcases h.2 with h2 | ⟨g,cap,cur,h1,h2,h3,h4⟩
 ·exact .inl h2
 ·refine .inr ⟨g,cap,cur,h1,h2,?_,h4⟩
  injection h1 with h1
  exact (hc.block g (Box.lt (w:=w) (t:=e) (cs:=cur.toList) (by simpa [Box] using h3)) (hn g (by rw [h1];rfl))).trans h3
theorem OpV.hdr2 {w2:World} {Z:Nat→Prop} (h:OpV w base z A cap vs m top xs) (hg:w.grownBy w' (blk A)) (hg2:Chg Z w' w2) (hzb:∀q,Z q→q < base):∀i,(hi:i < xs.length)→(hv:i < vs.length)→EntV w2 vs[i] xs[i]:=fun i hi hv=>by
 obtain ⟨C,c,E,d,e1,e2,e3,e4,e5,e6⟩:=h.rows i hi hv
 have hm:=mono_up h.mono i (by omega)
 obtain ⟨g,hA,hg1,_⟩:=own_at h.row (by omega)
 have hgm:=h.bm g (by rw [hA];rfl)
 have kp:∀(K:Option Addr) (q:Nat),blk K=some q→m i≤q→some q≠blk A:=fun K q hq hle e=>by have:=h.bm q e.symm;omega
 have kz:∀q,m i≤q→¬Z q:=fun q hle e=>by have:=hzb q e;omega
 refine ⟨C,c,E,d,e1,Sl.of_own (own_chg (e2.kept hg ?_) hg2 (fun q hq=>kz q (own_blk e2 hq).1)),Sl.of_own (own_chg (e3.kept hg ?_) hg2 (fun q hq=>kz q (own_blk e3 hq).1))⟩
 ·rw [ownBlock_blk]
  cases hc:blk C with
  | none=>exact .inl rfl
  | some q=>exact .inr (kp C q hc (own_blk e2 hc).1)
 ·rw [ownBlock_blk]
  cases hc:blk E with
  | none=>exact .inl rfl
  | some q=>exact .inr (kp E q hc (own_blk e3 hc).1)
theorem sl_keep2 {C:Option Addr} {cs:List Value} {w2:World} {Z:Nat→Prop} (h:Sl w C cs) (hg:w.grownBy w' (blk A)) (hg2:Chg Z w' w2) (hne:cs≠[]→∀q,blk C=some q→blk A≠some q∧¬Z q):Sl w2 C cs:=
 ((Chg.of_grown (S:=fun q=>blk A=some q∨Z q) hg (fun _ e=>.inl e)).trans (hg2.mono (fun _ _ e=>.inr e))).sl h (fun hn q hq hS=>by
  rcases hS with g | g
  ·exact (hne hn q hq).1 g
  ·exact (hne hn q hq).2 g)
theorem sl_keep {C:Option Addr} {cs:List Value} (h:Sl w C cs) (hg:w.grownBy w' (blk A)) (hne:cs≠[]→∀q,blk C=some q→blk A≠some q):Sl w' C cs:=
 (Chg.of_grown (S:=fun q=>blk A=some q) hg (fun _ e=>e)).sl h hne
theorem ents_ins {base' k i:Nat} {A':Option Addr} {y:Value × Value} {x:Ent} (hl:vs.length=xs.length) (hh:∀j,(hj:j < xs.length)→(hv:j < vs.length)→EntV w' vs[j] xs[j]) (hx:EntV w' y x) (hi:i≤xs.length) (ho:w'.ownsRow base' 75 2 (.slice A' (xs.length+1) k) (xs.length+1) (flatK enC (insE vs i y))):Ents w' A' (insE xs i x):=by
 refine ⟨insE vs i y,by rw [insE_len (by omega),insE_len hi,hl],Sl.of_own ho,fun j hj hv=>?_⟩
 rw [insE_len hi] at hj
 rcases Nat.lt_trichotomy j i with h1 | h1 | h1
 ·rw [insE_lo y h1 (by omega),insE_lo x h1 (by omega)];exact hh j (by omega) (by omega)
 ·subst h1;rw [insE_eq y (by omega),insE_eq x hi];exact hx
 ·rw [insE_hi y h1 (by omega),insE_hi x h1 (by omega)];exact hh (j - 1) (by omega) (by omega)
theorem ents_set {base' k i:Nat} {A':Option Addr} {y:Value × Value} {x:Ent} (hl:vs.length=xs.length) (hh:∀j,(hj:j < xs.length)→(hv:j < vs.length)→EntV w' vs[j] xs[j]) (hx:EntV w' y x) (ho:w'.ownsRow base' 75 2 (.slice A' xs.length k) xs.length (flatK enC (vs.set i y))):Ents w' A' (xs.set i x):=by
 refine ⟨vs.set i y,by simp [hl],Sl.of_own ho,fun j hj hv=>?_⟩
 by_cases e:i=j
 ·subst e;rw [List.getElem_set_self,List.getElem_set_self];exact hx
 ·rw [List.getElem_set_ne e,List.getElem_set_ne e];exact hh j (by simpa using hj) (by simpa using hv)
end
end Go.Proofs.YtkhmjidaeliccaaGreatDoor
namespace Go.Proofs.YtkhmjidaeliccaaGreatDoor
open Go.RowKit Go.Maps Go.WideMaps Tl
theorem results_colk {k:Nat} {fn:Func} (hr:fn.results=#[.cell k 32]) (tmps:Array Value) (w:World) {b:Nat} {v0 v1 v2 v3 v4:Value} (ha:tmps.getD k undef=.pointer (some ⟨b,0,none⟩))
  (c0:w.cell? ⟨b,0,none⟩=some v0) (c1:w.cell? ⟨b,1,none⟩=some v1) (c2:w.cell? ⟨b,2,none⟩=some v2) (c3:w.cell? ⟨b,3,none⟩=some v3) (c4:w.cell? ⟨b,4,none⟩=some v4) :
  (results fn tmps).run Tryz.prog w=.ok (.agg #[v0,v1,v2,v3,v4]) w:=by
 unfold results
 rw [hr]
 simp only [ha,List.mapM_toArray,List.mapM_cons,List.mapM_nil,asAddr]
 go_simp
theorem one_hdr {w:World} {base z:Nat} {A:Option Addr} {cap:Nat} {vs:List (Value × Value)} {m:Nat→Nat} {top:Nat} {xs:List Ent} (h:OpV w base z A cap vs m top xs):∀v ∈ flatK enC vs,v.oneCell'=true:=by
 intro u hu
 obtain ⟨p,hp,hg⟩:=List.mem_flatMap.1 hu
 obtain ⟨j,hj,rfl⟩:=List.getElem_of_mem hp
 obtain ⟨C,c,E,d,e,_⟩:=h.rows j (by have:=h.len;omega) hj
 simp only [enC,List.mem_cons,List.not_mem_nil,or_false] at hg
 rcases hg with rfl | rfl
 ·rw [e];rfl
 ·rw [e];rfl
def RetPl (base:Nat) (D E:Option Addr) (A:Option Addr) (B:Option Addr) (b:Nat) (c:Col) (x:Ent) (w:World) (e:Ending) (w':World):Prop:=∃A' a',e=.returned (colV A' (putE c.ents x).length a' B c.grps.length b { c with ents:=putE c.ents x })∧ColAt w' A' (putE c.ents x).length B c.grps.length { c with ents:=putE c.ents x }∧w.grownBy w' (blk A)∧∀Z W',Chg Z w' W'→(∀q,Z q→q < base∧q < w.heap.size∧blk B≠some q∧blk D≠some q∧blk E≠some q)→ColAt W' A' (putE c.ents x).length B c.grps.length { c with ents:=putE c.ents x }
theorem placed_any (base zz:Nat) (A:Option Addr) (a:Nat) (vs:List (Value × Value)) (m:Nat→Nat) (top:Nat) (c:Col) (B:Option Addr) (b:Nat) (D:Option Addr) (dk:Nat) (d:List Int) (E:Option Addr) (ek:Nat) (el:List Elt) (w:World)
  (hO:OpV w base zz A a vs m top c.ents) (hG:Grps w B c.grps) (hGB:c.grps≠[]→∀q,blk B=some q→blk A≠some q) (hD:Ints w D d) (hDA:d≠[]→∀q,blk D=some q→blk A≠some q) (hE:Elts w E el) (hEA:el≠[]→∀q,blk E=some q→blk A≠some q)
  (hs:c.ents.Pairwise (fun x y=>cmpL x.codes y.codes < 0)) (hcz:ColSz c) (hdl:d.length≤1048576) (hnm:∀g ∈ c.grps,g.name.size≤9223372036854775807) (hbw:base≤w.heap.size) :
  Calls Tryz.prog 37 #[colV A c.ents.length a B c.grps.length b c,.slice D d.length dk,.slice E el.length ek] w (RetPl base D E A B b c ⟨d,el⟩ w):=by
 have B0:Below w.heap.size w (((w.alloc (.cells #[.slice A c.ents.length a,.slice B c.grps.length b,.int .i64 c.base,.int .i64 c.second,.int .i64 c.third] 32)).alloc (.cells #[.slice none 0 0,.slice none 0 0,.int .i64 0,.int .i64 0,.int .i64 0] 32)).alloc (.cells #[.slice D d.length dk,.slice E el.length ek] 75)):=(((Below.refl _ _).alloc (Nat.le_refl _) _).alloc (by simp) _).alloc (by simp;omega) _
 have X0:Box (((w.alloc (.cells #[.slice A c.ents.length a,.slice B c.grps.length b,.int .i64 c.base,.int .i64 c.second,.int .i64 c.third] 32)).alloc (.cells #[.slice none 0 0,.slice none 0 0,.int .i64 0,.int .i64 0,.int .i64 0] 32)).alloc (.cells #[.slice D d.length dk,.slice E el.length ek] 75)) w.heap.size 32 [.slice A c.ents.length a,.slice B c.grps.length b,.int .i64 c.base,.int .i64 c.second,.int .i64 c.third]:=((Box.new w 32 [.slice A c.ents.length a,.slice B c.grps.length b,.int .i64 c.base,.int .i64 c.second,.int .i64 c.third] rfl).below ((Below.refl _ _).alloc (Nat.le_refl _) _) (by simp)).below ((Below.refl _ _).alloc (Nat.le_refl _) _) (by simp;omega)
 have X1:Box (((w.alloc (.cells #[.slice A c.ents.length a,.slice B c.grps.length b,.int .i64 c.base,.int .i64 c.second,.int .i64 c.third] 32)).alloc (.cells #[.slice none 0 0,.slice none 0 0,.int .i64 0,.int .i64 0,.int .i64 0] 32)).alloc (.cells #[.slice D d.length dk,.slice E el.length ek] 75)) (w.heap.size+1) 32 [.slice none 0 0,.slice none 0 0,.int .i64 0,.int .i64 0,.int .i64 0]:=(Box.new (w.alloc (.cells #[.slice A c.ents.length a,.slice B c.grps.length b,.int .i64 c.base,.int .i64 c.second,.int .i64 c.third] 32)) 32 [.slice none 0 0,.slice none 0 0,.int .i64 0,.int .i64 0,.int .i64 0] (by simp)).below ((Below.refl _ _).alloc (Nat.le_refl _) _) (by simp)
 have X2:Box (((w.alloc (.cells #[.slice A c.ents.length a,.slice B c.grps.length b,.int .i64 c.base,.int .i64 c.second,.int .i64 c.third] 32)).alloc (.cells #[.slice none 0 0,.slice none 0 0,.int .i64 0,.int .i64 0,.int .i64 0] 32)).alloc (.cells #[.slice D d.length dk,.slice E el.length ek] 75)) (w.heap.size+2) 75 [.slice D d.length dk,.slice E el.length ek]:=Box.new ((w.alloc (.cells #[.slice A c.ents.length a,.slice B c.grps.length b,.int .i64 c.base,.int .i64 c.second,.int .i64 c.third] 32)).alloc (.cells #[.slice none 0 0,.slice none 0 0,.int .i64 0,.int .i64 0,.int .i64 0] 32)) 75 [.slice D d.length dk,.slice E el.length ek] (by simp)
 have W0E:∃W0,(((w.alloc (.cells #[.slice A c.ents.length a,.slice B c.grps.length b,.int .i64 c.base,.int .i64 c.second,.int .i64 c.third] 32)).alloc (.cells #[.slice none 0 0,.slice none 0 0,.int .i64 0,.int .i64 0,.int .i64 0] 32)).alloc (.cells #[.slice D d.length dk,.slice E el.length ek] 75))=W0:=⟨_,rfl⟩
 have KS:=Lib.hid (fun W (hb:Below w.heap.size w W)=>bsearchE_any A c.ents.length a D d.length dk c.ents d W ((hO.below hb).close.into.is) (hD.below hb) rfl rfl hcz.n hdl (fun i hi=>(hcz.e i hi).1) hs)
 unfold RetSrchE at KS
 have HO:=Lib.hid hO
 have HG:=Lib.hid hG
 have HGB:=Lib.hid hGB
 have HD:=Lib.hid hD
 have HDA:=Lib.hid hDA
 have HE:=Lib.hid hE
 have HEA:=Lib.hid hEA
 have HPN:=Lib.hid (fun i h=>put_new (es:=c.ents) (x:=⟨d,el⟩) (i:=i) hs h)
 have HPO:=Lib.hid (fun i h=>put_old (es:=c.ents) (x:=⟨d,el⟩) (i:=i) hs h)
 have HNM:=Lib.hid hnm
 have hcn:=hcz.n
 clear hO hG hGB hD hDA hE hEA hs hnm hcz
 unfold colV
 go_enter Tryz.func37,Tryz.ntmps37
 go_upto_region 2 with (fail)
 obtain ⟨W0,hW0⟩:=W0E
 try rw [hW0] at B0 X0 X1 X2 ⊢
 clear hW0
 have k0:=X0.cell (i:=0) rfl
 have l0:=X0.lt
 have l1:=X1.lt
 have l2:=X2.lt
 have hw0:=B0.size
 have HB0:=Lib.hid B0
 have HX0:=Lib.hid X0
 have HX1:=Lib.hid X1
 have HX2:=Lib.hid X2
 have KS2:=Lib.hid (KS.out W0 B0)
 clear X0 X1 X2 B0 KS
 go_wp2_with fail
 with_reducible refine KS2.out.mono ?_
 rintro e W1 ⟨i,f,rfl,hsr,hb1⟩
 have HSR:=Lib.hid hsr
 have hile:=hsr.le
 have hs1:=hb1.size
 have hB1:=HB0.out.trans (hb1.mono hw0)
 have HO1:=Lib.hid (HO.out.below hB1)
 have X0w:=Lib.hid (HX0.out.below hb1 l0)
 have X1w:=Lib.hid (HX1.out.below hb1 l1)
 have X2w:=Lib.hid (HX2.out.below hb1 l2)
 have HB1:=Lib.hid hB1
 clear hsr hb1 hB1 KS2 k0
 cases f with
 | true=>
  obtain ⟨hi,hcd,hset⟩:=HPO.out i HSR.out
  have hvl:=HO.out.len
  obtain ⟨gA,C,cc,E0,ec,rfl,hg1,hg2,hve,ca,cb⟩:=HO1.out.at hi (by omega)
  have hgw:gA < w.heap.size:=(own_blk HO.out.row rfl).2
  have fa:W1.frozen? ⟨gA,i*2,none⟩=false:=HO1.out.row.frozenAt _
  have fb:W1.frozen? ⟨gA,i*2+1,none⟩=false:=HO1.out.row.frozenAt _
  have x0:=X0w.out.cell (i:=0) rfl
  have y0:=X2w.out.cell (i:=0) rfl
  have y1:=X2w.out.cell (i:=1) rfl
  have hne0:¬gA=w.heap.size:=by omega
  have hne1:¬gA=w.heap.size+1:=by omega
  have hne2:¬gA=w.heap.size+2:=by omega
  have hii:(i:Int) < (c.ents.length:Int):=by omega
  have R1:=(HO1.out.row.stored (i*2+0) (.slice D d.length dk)).1
  rw [flatK_set enC 2 (fun _=>rfl) vs i 0 _ (.slice D d.length dk,vs[i].2) (by omega) (by omega) rfl] at R1
  have R2:=(R1.stored (i*2+1) (.slice E el.length ek)).1
  rw [flatK_set enC 2 (fun _=>rfl) (vs.set i (.slice D d.length dk,vs[i].2)) i 1 _ (.slice D d.length dk,.slice E el.length ek) (by simp;omega) (by omega) (by rw [List.getElem_set_self];rfl),List.set_set] at R2
  simp only [Nat.add_zero] at R2
  have G2:w.grownBy ((W1.setCell ⟨gA,i*2,none⟩ (.slice D d.length dk)).setCell ⟨gA,i*2+1,none⟩ (.slice E el.length ek)) (some gA):=gr_set (p:=⟨gA,i*2+1,none⟩) (gr_set (p:=⟨gA,i*2,none⟩) (grownR_below (grownR_refl w _) HB1.out) _) _
  have X0y:=bx_ne (bx_ne X0w.out ⟨gA,i*2,none⟩ (fun e=>hne0 e.symm) (.slice D d.length dk)) ⟨gA,i*2+1,none⟩ (fun e=>hne0 e.symm) (.slice E el.length ek)
  have X1y:=bx_ne (bx_ne X1w.out ⟨gA,i*2,none⟩ (fun e=>hne1 e.symm) (.slice D d.length dk)) ⟨gA,i*2+1,none⟩ (fun e=>hne1 e.symm) (.slice E el.length ek)
  have WE:∃W2,((W1.setCell ⟨gA,i*2,none⟩ (.slice D d.length dk)).setCell ⟨gA,i*2+1,none⟩ (.slice E el.length ek))=W2:=⟨_,rfl⟩
  have hpl:(putE c.ents ⟨d,el⟩).length=c.ents.length:=by rw [←hset,List.length_set]
  have HSET:=Lib.hid hset
  have HPL:=Lib.hid hpl
  clear hset hpl hcd hve R1
  go_upto_region 6 with (fail)
  obtain ⟨W2,hW2⟩:=WE
  try rw [hW2] at R2 G2 X0y X1y ⊢
  clear hW2 ca cb fa fb x0 y0 y1
  have X1w:=Lib.hid X1y
  have HR:=Lib.hid R2
  have HG2:=Lib.hid G2
  have HNE:=Lib.hid (show some gA≠some (w.heap.size+1) from fun e=>hne1 (Option.some.inj e))
  have c0:=X0y.cell (i:=0) rfl
  have c1:=X0y.cell (i:=1) rfl
  have c2:=X0y.cell (i:=2) rfl
  have c3:=X0y.cell (i:=3) rfl
  have c4:=X0y.cell (i:=4) rfl
  have f0:=X1y.free 0
  have g0:=X1y.cell (i:=0) rfl
  have f1:=X1y.free 1
  have g1:=X1y.cell (i:=1) rfl
  have f2:=X1y.free 2
  have g2:=X1y.cell (i:=2) rfl
  have f3:=X1y.free 3
  have g3:=X1y.cell (i:=3) rfl
  have f4:=X1y.free 4
  have g4:=X1y.cell (i:=4) rfl
  have ZF:Box (((((W2.setCell ⟨w.heap.size+1,0,none⟩ (.slice (some ⟨gA,0,none⟩) c.ents.length a)).setCell ⟨w.heap.size+1,1,none⟩ (.slice B c.grps.length b)).setCell ⟨w.heap.size+1,2,none⟩ (.int .i64 c.base)).setCell ⟨w.heap.size+1,3,none⟩ (.int .i64 c.second)).setCell ⟨w.heap.size+1,4,none⟩ (.int .i64 c.third)) (w.heap.size+1) 32 [.slice (some ⟨gA,0,none⟩) c.ents.length a,.slice B c.grps.length b,.int .i64 c.base,.int .i64 c.second,.int .i64 c.third]:=(((((X1w.out.set 0 (.slice (some ⟨gA,0,none⟩) c.ents.length a)).set 1 (.slice B c.grps.length b)).set 2 (.int .i64 c.base)).set 3 (.int .i64 c.second)).set 4 (.int .i64 c.third))
  have GF:W2.grownBy (((((W2.setCell ⟨w.heap.size+1,0,none⟩ (.slice (some ⟨gA,0,none⟩) c.ents.length a)).setCell ⟨w.heap.size+1,1,none⟩ (.slice B c.grps.length b)).setCell ⟨w.heap.size+1,2,none⟩ (.int .i64 c.base)).setCell ⟨w.heap.size+1,3,none⟩ (.int .i64 c.second)).setCell ⟨w.heap.size+1,4,none⟩ (.int .i64 c.third)) (some (w.heap.size+1)):=gr_set (p:=⟨w.heap.size+1,4,none⟩) (gr_set (p:=⟨w.heap.size+1,3,none⟩) (gr_set (p:=⟨w.heap.size+1,2,none⟩) (gr_set (p:=⟨w.heap.size+1,1,none⟩) (gr_set (p:=⟨w.heap.size+1,0,none⟩) (grownR_refl W2 _) _) _) _) _) _
  have GW:w.grownBy (((((W2.setCell ⟨w.heap.size+1,0,none⟩ (.slice (some ⟨gA,0,none⟩) c.ents.length a)).setCell ⟨w.heap.size+1,1,none⟩ (.slice B c.grps.length b)).setCell ⟨w.heap.size+1,2,none⟩ (.int .i64 c.base)).setCell ⟨w.heap.size+1,3,none⟩ (.int .i64 c.second)).setCell ⟨w.heap.size+1,4,none⟩ (.int .i64 c.third)) _:=(gr_new (gr_new (gr_new (gr_new (gr_new HG2.out ⟨w.heap.size+1,0,none⟩ (by dsimp only;omega) (.slice (some ⟨gA,0,none⟩) c.ents.length a)) ⟨w.heap.size+1,1,none⟩ (by dsimp only;omega) (.slice B c.grps.length b)) ⟨w.heap.size+1,2,none⟩ (by dsimp only;omega) (.int .i64 c.base)) ⟨w.heap.size+1,3,none⟩ (by dsimp only;omega) (.int .i64 c.second)) ⟨w.heap.size+1,4,none⟩ (by dsimp only;omega) (.int .i64 c.third))
  have WFE:∃Wf,(((((W2.setCell ⟨w.heap.size+1,0,none⟩ (.slice (some ⟨gA,0,none⟩) c.ents.length a)).setCell ⟨w.heap.size+1,1,none⟩ (.slice B c.grps.length b)).setCell ⟨w.heap.size+1,2,none⟩ (.int .i64 c.base)).setCell ⟨w.heap.size+1,3,none⟩ (.int .i64 c.second)).setCell ⟨w.heap.size+1,4,none⟩ (.int .i64 c.third))=Wf:=⟨_,rfl⟩
  clear X0y X1y R2 G2
  go_wp2_with fail
  obtain ⟨Wf,hWf⟩:=WFE
  try rw [hWf] at ZF GF GW ⊢
  clear hWf
  have z0:=ZF.cell (i:=0) rfl
  have z1:=ZF.cell (i:=1) rfl
  have z2:=ZF.cell (i:=2) rfl
  have z3:=ZF.cell (i:=3) rfl
  have z4:=ZF.cell (i:=4) rfl
  (try simp only [Exit.inBlock,Exit.then])
  refine bodyPost_ret (results_colk rfl _ _ (b:=w.heap.size+1) rfl z0 z1 z2 z3 z4) rfl ?_
  have hR:=HR.out.kept GF (.inr HNE.out)
  have hx:EntV Wf (.slice D d.length dk,.slice E el.length ek) ⟨d,el⟩:=⟨D,dk,E,ek,rfl,sl_keep (A:=some ⟨gA,0,none⟩) HD.out GW (fun h=>HDA.out (by rintro rfl;exact h rfl)),sl_keep (A:=some ⟨gA,0,none⟩) HE.out GW (fun h=>HEA.out (by rintro rfl;exact h rfl))⟩
  have hents:=ents_set (i:=i) HO.out.len (HO.out.hdr GW) hx hR
  rw [HSET.out] at hents
  refine ⟨some ⟨gA,0,none⟩,a,by rw [HPL.out];rfl,⟨hents,sl_keep (A:=some ⟨gA,0,none⟩) HG.out GW (fun h=>HGB.out (by rintro e;rw [e] at h;exact h rfl)),rfl,rfl,HNM.out⟩,GW,fun Z W' g2 hZ=>?_⟩
  have hR2:=own_chg hR g2 (fun q e z=>by have e:gA=q:=Option.some.inj e;have:=(hZ q z).1;have:=(own_blk HO.out.row (A:=some ⟨gA,0,none⟩) rfl).1;omega)
  have hx2:EntV W' (.slice D d.length dk,.slice E el.length ek) ⟨d,el⟩:=⟨D,dk,E,ek,rfl,sl_keep2 (A:=some ⟨gA,0,none⟩) HD.out GW g2 (fun h q hq=>⟨HDA.out (by rintro rfl;exact h rfl) q hq,fun z=>(hZ q z).2.2.2.1 hq⟩),sl_keep2 (A:=some ⟨gA,0,none⟩) HE.out GW g2 (fun h q hq=>⟨HEA.out (by rintro rfl;exact h rfl) q hq,fun z=>(hZ q z).2.2.2.2 hq⟩)⟩
  have hents2:=ents_set (i:=i) HO.out.len (HO.out.hdr2 GW g2 (fun q z=>(hZ q z).1)) hx2 hR2
  rw [HSET.out] at hents2
  exact ⟨hents2,sl_keep2 (A:=some ⟨gA,0,none⟩) HG.out GW g2 (fun h q hq=>⟨HGB.out (by rintro e;rw [e] at h;exact h rfl) q hq,fun z=>(hZ q z).2.2.1 hq⟩),rfl,rfl,HNM.out⟩
 | false=>
  have hput:=HPN.out i HSR.out
  have hvl:=HO.out.len
  have hAlt:∀q,blk A=some q→q < w.heap.size:=fun q hq=>(own_blk HO.out.row hq).2
  have hA0:some w.heap.size≠blk A:=fun e=>by have:=hAlt _ e.symm;omega
  have hA1:some (w.heap.size+1)≠blk A:=fun e=>by have:=hAlt _ e.symm;omega
  have x0:=X0w.out.cell (i:=0) rfl
  have y0:=X2w.out.cell (i:=0) rfl
  have y1:=X2w.out.cell (i:=1) rfl
  have BV:Below W1.heap.size W1 (W1.alloc (.cells #[.slice D d.length dk,.slice E el.length ek] 75)):=(Below.refl _ _).alloc (Nat.le_refl _) _
  have XV:Box (W1.alloc (.cells #[.slice D d.length dk,.slice E el.length ek] 75)) W1.heap.size 75 [(Value.slice D d.length dk,Value.slice E el.length ek).1,(Value.slice D d.length dk,Value.slice E el.length ek).2]:=Box.new W1 75 [.slice D d.length dk,.slice E el.length ek] rfl
  have HBV:=Lib.hid BV
  have KI:=Lib.hid (insE_any A c.ents.length a base i vs (.slice D d.length dk,.slice E el.length ek) W1.heap.size 1 (W1.alloc (.cells #[.slice D d.length dk,.slice E el.length ek] 75)) (own_keep HO1.out.row BV) (by have:=BV.size;omega) hvl hile XV (fun g hg=>by have:=hAlt g hg;omega) hcn (one_hdr HO.out) ⟨rfl,rfl⟩)
  unfold RetInsE at KI
  have HPUT:=Lib.hid hput
  have HPL:=Lib.hid (show (putE c.ents ⟨d,el⟩).length=c.ents.length+1 from by rw [←hput,insE_len hile])
  have HVL:=Lib.hid hvl
  have HA0:=Lib.hid hA0
  have HA1:=Lib.hid hA1
  have HAL:=Lib.hid hAlt
  have hm1:=BV.size
  clear hput hvl hAlt hA0 hA1 BV XV
  go_wp2_with fail
  with_reducible refine KI.out.mono ?_
  rintro e W3 ⟨A',a',rfl,hrow,hgr,hBl⟩
  have HG1:=grownR_trans (grownR_below (grownR_below (grownR_refl w _) HB1.out) HBV.out) hgr
  have X0z:=(X0w.out.below HBV.out X0w.out.lt).grown hgr HA0.out
  have X1z:=(X1w.out.below HBV.out X1w.out.lt).grown hgr HA1.out
  rw [HVL.out] at hrow ⊢
  have hBl0:Value.ownBlock (.slice A' (c.ents.length+1) a')≠some w.heap.size∧Value.ownBlock (.slice A' (c.ents.length+1) a')≠some (w.heap.size+1):=by
   rw [ownBlock_blk]
   rcases hBl with h | h
   ·rw [h];exact ⟨fun e=>by have:=HAL.out _ e;omega,fun e=>by have:=HAL.out _ e;omega⟩
   ·rw [h];exact ⟨fun e=>by injection e with e;have h1:=HBV.out.size;have h2:(W1.alloc (.cells #[.slice D d.length dk,.slice E el.length ek] 75)).heap.size=W1.heap.size+1:=(by simp);omega,fun e=>by injection e with e;have h2:(W1.alloc (.cells #[.slice D d.length dk,.slice E el.length ek] 75)).heap.size=W1.heap.size+1:=(by simp);omega⟩
  have HBL:=Lib.hid hBl
  have HW1:=Lib.hid (show w.heap.size≤(W1.alloc (.cells #[.slice D d.length dk,.slice E el.length ek] 75)).heap.size from by have:=HBV.out.size;omega)
  have x9:=X0z.cell (i:=0) rfl
  have f9:=X0z.free 0
  have X0y:=X0z.set 0 (.slice A' (c.ents.length+1) a')
  have X1y:=bx_ne X1z ⟨w.heap.size,0,none⟩ (by dsimp only;omega) (.slice A' (c.ents.length+1) a')
  have R2:=hrow.kept (grown_set W3 ⟨w.heap.size,0,none⟩ (.slice A' (c.ents.length+1) a')) (.inr hBl0.1)
  have G2:=gr_new HG1 ⟨w.heap.size,0,none⟩ (Nat.le_refl _) (.slice A' (c.ents.length+1) a')
  have HNE:=Lib.hid hBl0.2
  have WE:∃W2,(W3.setCell ⟨w.heap.size,0,none⟩ (.slice A' (c.ents.length+1) a'))=W2:=⟨_,rfl⟩
  clear hrow hgr hBl hBl0 HG1 X0z X1z KI x0 y0 y1
  go_upto_region 6 with (fail)
  obtain ⟨W2,hW2⟩:=WE
  try rw [hW2] at R2 G2 X0y X1y ⊢
  clear hW2 x9 f9
  have X1w:=Lib.hid X1y
  have HR:=Lib.hid R2
  have HG2:=Lib.hid G2
  have c0:=X0y.cell (i:=0) rfl
  have c1:=X0y.cell (i:=1) rfl
  have c2:=X0y.cell (i:=2) rfl
  have c3:=X0y.cell (i:=3) rfl
  have c4:=X0y.cell (i:=4) rfl
  have f0:=X1y.free 0
  have g0:=X1y.cell (i:=0) rfl
  have f1:=X1y.free 1
  have g1:=X1y.cell (i:=1) rfl
  have f2:=X1y.free 2
  have g2:=X1y.cell (i:=2) rfl
  have f3:=X1y.free 3
  have g3:=X1y.cell (i:=3) rfl
  have f4:=X1y.free 4
  have g4:=X1y.cell (i:=4) rfl
  have ZF:Box (((((W2.setCell ⟨w.heap.size+1,0,none⟩ (.slice A' (c.ents.length+1) a')).setCell ⟨w.heap.size+1,1,none⟩ (.slice B c.grps.length b)).setCell ⟨w.heap.size+1,2,none⟩ (.int .i64 c.base)).setCell ⟨w.heap.size+1,3,none⟩ (.int .i64 c.second)).setCell ⟨w.heap.size+1,4,none⟩ (.int .i64 c.third)) (w.heap.size+1) 32 [.slice A' (c.ents.length+1) a',.slice B c.grps.length b,.int .i64 c.base,.int .i64 c.second,.int .i64 c.third]:=(((((X1w.out.set 0 (.slice A' (c.ents.length+1) a')).set 1 (.slice B c.grps.length b)).set 2 (.int .i64 c.base)).set 3 (.int .i64 c.second)).set 4 (.int .i64 c.third))
  have GF:W2.grownBy (((((W2.setCell ⟨w.heap.size+1,0,none⟩ (.slice A' (c.ents.length+1) a')).setCell ⟨w.heap.size+1,1,none⟩ (.slice B c.grps.length b)).setCell ⟨w.heap.size+1,2,none⟩ (.int .i64 c.base)).setCell ⟨w.heap.size+1,3,none⟩ (.int .i64 c.second)).setCell ⟨w.heap.size+1,4,none⟩ (.int .i64 c.third)) (some (w.heap.size+1)):=gr_set (p:=⟨w.heap.size+1,4,none⟩) (gr_set (p:=⟨w.heap.size+1,3,none⟩) (gr_set (p:=⟨w.heap.size+1,2,none⟩) (gr_set (p:=⟨w.heap.size+1,1,none⟩) (gr_set (p:=⟨w.heap.size+1,0,none⟩) (grownR_refl W2 _) _) _) _) _) _
  have GW:w.grownBy (((((W2.setCell ⟨w.heap.size+1,0,none⟩ (.slice A' (c.ents.length+1) a')).setCell ⟨w.heap.size+1,1,none⟩ (.slice B c.grps.length b)).setCell ⟨w.heap.size+1,2,none⟩ (.int .i64 c.base)).setCell ⟨w.heap.size+1,3,none⟩ (.int .i64 c.second)).setCell ⟨w.heap.size+1,4,none⟩ (.int .i64 c.third)) _:=(gr_new (gr_new (gr_new (gr_new (gr_new HG2.out ⟨w.heap.size+1,0,none⟩ (by dsimp only;omega) (.slice A' (c.ents.length+1) a')) ⟨w.heap.size+1,1,none⟩ (by dsimp only;omega) (.slice B c.grps.length b)) ⟨w.heap.size+1,2,none⟩ (by dsimp only;omega) (.int .i64 c.base)) ⟨w.heap.size+1,3,none⟩ (by dsimp only;omega) (.int .i64 c.second)) ⟨w.heap.size+1,4,none⟩ (by dsimp only;omega) (.int .i64 c.third))
  have WFE:∃Wf,(((((W2.setCell ⟨w.heap.size+1,0,none⟩ (.slice A' (c.ents.length+1) a')).setCell ⟨w.heap.size+1,1,none⟩ (.slice B c.grps.length b)).setCell ⟨w.heap.size+1,2,none⟩ (.int .i64 c.base)).setCell ⟨w.heap.size+1,3,none⟩ (.int .i64 c.second)).setCell ⟨w.heap.size+1,4,none⟩ (.int .i64 c.third))=Wf:=⟨_,rfl⟩
  clear X0y X1y R2 G2
  go_wp2_with fail
  obtain ⟨Wf,hWf⟩:=WFE
  try rw [hWf] at ZF GF GW ⊢
  clear hWf
  have z0:=ZF.cell (i:=0) rfl
  have z1:=ZF.cell (i:=1) rfl
  have z2:=ZF.cell (i:=2) rfl
  have z3:=ZF.cell (i:=3) rfl
  have z4:=ZF.cell (i:=4) rfl
  (try simp only [Exit.inBlock,Exit.then])
  refine bodyPost_ret (results_colk rfl _ _ (b:=w.heap.size+1) rfl z0 z1 z2 z3 z4) rfl ?_
  have hR:=HR.out.kept GF (.inr HNE.out)
  have hx:EntV Wf (.slice D d.length dk,.slice E el.length ek) ⟨d,el⟩:=⟨D,dk,E,ek,rfl,sl_keep (A:=A) HD.out GW (fun h=>HDA.out (by rintro rfl;exact h rfl)),sl_keep (A:=A) HE.out GW (fun h=>HEA.out (by rintro rfl;exact h rfl))⟩
  have hents:=ents_ins (i:=i) HO.out.len (HO.out.hdr GW) hx hile hR
  rw [HPUT.out] at hents
  refine ⟨A',a',by rw [HPL.out];rfl,⟨hents,sl_keep (A:=A) HG.out GW (fun h=>HGB.out (by rintro e;rw [e] at h;exact h rfl)),rfl,rfl,HNM.out⟩,GW,fun Z W' g2 hZ=>?_⟩
  have hR2:=own_chg hR g2 (fun q hq z=>by
   obtain ⟨z1,z2,-⟩:=hZ q z
   rcases HBL.out with h | h
   ·have:=(own_blk HO.out.row (h.symm.trans hq)).1;omega
   ·rw [h] at hq;have hq:=Option.some.inj hq;have:=HW1.out;(try dsimp only at hq);omega)
  have hx2:EntV W' (.slice D d.length dk,.slice E el.length ek) ⟨d,el⟩:=⟨D,dk,E,ek,rfl,sl_keep2 (A:=A) HD.out GW g2 (fun h q hq=>⟨HDA.out (by rintro rfl;exact h rfl) q hq,fun z=>(hZ q z).2.2.2.1 hq⟩),sl_keep2 (A:=A) HE.out GW g2 (fun h q hq=>⟨HEA.out (by rintro rfl;exact h rfl) q hq,fun z=>(hZ q z).2.2.2.2 hq⟩)⟩
  have hents2:=ents_ins (i:=i) HO.out.len (HO.out.hdr2 GW g2 (fun q z=>(hZ q z).1)) hx2 hile hR2
  rw [HPUT.out] at hents2
  exact ⟨hents2,sl_keep2 (A:=A) HG.out GW g2 (fun h q hq=>⟨HGB.out (by rintro e;rw [e] at h;exact h rfl) q hq,fun z=>(hZ q z).2.2.1 hq⟩),rfl,rfl,HNM.out⟩
end Go.Proofs.YtkhmjidaeliccaaGreatDoor
