/- Texts that are merged into one file: SlOps. -/
import Derived.Test.YtpfbnikbebccjaaGreatDoorG02
import Derived.Test.YtpfbnikbebccjaaGreatDoorG03
import Derived.Test.YtpfbnikbebccjaaGreatDoorG04
import Derived.Test.YtpfbnikbebccjaaGreatDoorG09
import Derived.Test.YtpfbnikbebccjaaGreatDoorG15
import Derived.Test.YtpfbnikbebccjaaGreatDoorG17
import Derived.Test.YtpfbnikbebccjaaGreatDoorG22
import Derived.BigQuiet
/- Contracts of a sorted list's methods that only read. Written by gen_slops.py. -/
namespace Go.Proofs.YtpfbnikbebccjaaGreatDoor
open Go.RowKit Go.Maps Go.WideMaps Srl

theorem fldI (a b : Value) (W : World) : (Instr.field 97 (.agg #[a, b]) 1).run Tryz.prog W = .ok b W := by kernel_rfl
theorem fld1 (a b : Value) (w : World) : ((Sem.run Tryz.prog (Instr.field 97 (Value.agg #[a, b]) 1) w).andThen fun a w' => Result.ok (Next.value a) w') = Result.ok (Next.value b) w := by rw [fldI]; rfl
theorem kyN_len (x : Nrm) (c : Col) (o : Opt) (t : List Int) : (kyN x c o t).length ≤ 4 * (1024 * t.length + 1) + 1 + 64 * t.length := by
  have h1 := joinW_len (optD o) (elsN x c t) (optD_bd o).1.2 (wgtL (optD o) (elsN x c t)).length
  rw [List.take_length] at h1
  have h2 := elsN_len x c t
  have h3 := idnL_len (dtx x false t)
  have h4 := dtx_len x false t
  unfold kyN keyN
  rw [List.length_append]
  split
  · rw [List.length_cons]; omega
  · rw [List.length_nil]; omega
theorem or_geq (p q : It) : decide (0 ≤ orI (cmpL p.1 q.1) (cmpI p.2 q.2)) = decide (¬ ltI p q) := by
  rw [Bool.eq_iff_iff]
  simp only [decide_eq_true_eq]
  unfold orI ltI cmpI
  by_cases e : cmpL p.1 q.1 = 0
  · rw [if_pos e]
    by_cases g : p.2 < q.2
    · rw [if_pos g]; simp [e, g]
    · rw [if_neg g]
      have : ¬ (cmpL p.1 q.1 < 0 ∨ cmpL p.1 q.1 = 0 ∧ p.2 < q.2) := by omega
      simp only [this, not_false_iff, iff_true]
      split <;> omega
  · rw [if_neg e]
    omega
theorem zero_item (w : World) : (zeroValue 97).run Tryz.prog w = .ok (.agg #[.slice none 0 0, .slice none 0 0]) w := by kernel_rfl
section
variable {P : Program} {ops : Array Oper} {Q : Exit → Act → World → Prop} {md : Region.Mode} {S : World → Prop}
/-- a look into a map, in every world that meets S -/
theorem anyH_look {κ : Type} {k : TypeId} {kl : κ → Lit} {ok : κ → Prop} {b n : Nat} {f : κ → Option Value} {i : Nat} {oi : Oper} {v : Value} {fuel : Nat} {listed : Array Bool} {a : Act} {w : World} (d : Option Tmp) (hi : ops[i]? = some oi) (hd : oi.dst = d)
    (hs : Region.noSelect ops = true) (hf : Region.free md ops listed i = true) (hr : (Region.ready md ops listed).contains i = true)
    (hQ : ∀ c a w, Q (.panic c) (a.put d v) w → Q (.panic c) a w) (hw : Region.wanted oi (yielded ops a.tmps) = true) (hS : S w)
    (m y : Operand) (t : TypeId) (hop : oi.op = Op.lookup t m y false) {e : TypeId} (h : ∀ w, S w → MapIs P k kl ok w b n f) (K : Keyed P k) (ht : P.underlying t = some (.map k e)) {z : Value} (hz : ∀ w, (zeroValue e).run P w = .ok z w)
    (hm : a.eval m = .map (some b)) {key : Value} {x : κ} (hy : a.eval y = key) (hx : ok x) (hkey : keyOf P k key = some (kl x)) (hv : (f x).getD z = v)
    (hK : wpAnyH P md ops Q S fuel (listed.setIfInBounds i true) (a.put d v) w) : wpAnyH P md ops Q S (fuel + 1) listed a w := by
  subst hv
  refine anyH_take d hi hd hs hf hr hQ hw hS (fun w' hS' => ?_) hK
  simp [execOp, hop, hm, hy, (h w' hS').look K ht (hz w') hx hkey, Result.andThen]
end

set_option maxRecDepth 100000 in
set_option maxHeartbeats 12800000 in
theorem slKey_own {w : World} {l bs : Nat} {V : LsV} {mb : Nat} {O : Option Addr} {oc cnt : Nat} {x : Nrm} {c : Col} {o : Opt} {f : Int → Option Value} {L : Its} (h : Lst w l bs V mb O oc cnt x c o f L) (D : Option Addr) (dn dk : Nat) (t : List Int) (hD : Ints w D t) (hn : t.length = dn) (hbig : dn ≤ 16384) (hio : ∀ z ∈ t, iok z) :
    Calls Tryz.prog 45 #[.pointer (some ⟨l, 0, none⟩), .slice D dn dk] w (RetOwnI (kyN x c o t) w) := by
  subst hn
  have X0 := h.box
  unfold lsC at X0
  have l0 := X0.lt
  have KC := Lib.hid (fun W (hb : Below w.heap.size w W) => key_own V.A0 _ V.k0 V.A1 _ V.k1 V.A2 _ V.k2 x V.C _ V.a V.B _ V.b c o D t.length dk t W (h.nrm.below hb) h.nz (h.laid.below hb) (h.col.below hb) h.cz (hD.below hb) rfl hbig hio)
  have SH := Lib.hid (fun W' (hb' : Below w.heap.size w W') => show W'.cell? ⟨l, 0, none⟩ = some (.slice V.A0 x.cls.length V.k0) ∧ W'.cell? ⟨l, 1, none⟩ = some (.slice V.A1 x.dec.length V.k1) ∧ W'.cell? ⟨l, 2, none⟩ = some (.slice V.A2 x.exc.length V.k2) ∧ W'.cell? ⟨l, 3, none⟩ = some (.slice V.C c.ents.length V.a) ∧ W'.cell? ⟨l, 4, none⟩ = some (.slice V.B c.grps.length V.b) ∧ W'.cell? ⟨l, 5, none⟩ = some (.int .i64 c.base) ∧ W'.cell? ⟨l, 6, none⟩ = some (.int .i64 c.second) ∧ W'.cell? ⟨l, 7, none⟩ = some (.int .i64 c.third) ∧ W'.cell? ⟨l, 8, none⟩ = some (.int .i64 o.st) ∧ W'.cell? ⟨l, 9, none⟩ = some (.int .i64 o.va) ∧ W'.cell? ⟨l, 10, none⟩ = some (.bool o.bk) ∧ W'.cell? ⟨l, 11, none⟩ = some (.bool o.idn) ∧ Below w.heap.size w W' from ⟨(X0.below hb' l0).cell (i := 0) rfl, (X0.below hb' l0).cell (i := 1) rfl, (X0.below hb' l0).cell (i := 2) rfl, (X0.below hb' l0).cell (i := 3) rfl, (X0.below hb' l0).cell (i := 4) rfl, (X0.below hb' l0).cell (i := 5) rfl, (X0.below hb' l0).cell (i := 6) rfl, (X0.below hb' l0).cell (i := 7) rfl, (X0.below hb' l0).cell (i := 8) rfl, (X0.below hb' l0).cell (i := 9) rfl, (X0.below hb' l0).cell (i := 10) rfl, (X0.below hb' l0).cell (i := 11) rfl, hb'⟩)
  have EK := Lib.hid (show kyN x c o t = keyN (optD o) (elsN x c t) (dtx x false t) from rfl)
  rw [← EK.out] at KC
  generalize kyN x c o t = ky at *
  unfold colV RetOwnI at KC
  have TK := Lib.hid (fun W (hb' : Below w.heap.size w W) => (KC.out W hb').mono (R' := fun e W' => ∃ v, e = .returned v ∧ (W'.cell? ⟨l, 0, none⟩ = some (.slice V.A0 x.cls.length V.k0) ∧ W'.cell? ⟨l, 1, none⟩ = some (.slice V.A1 x.dec.length V.k1) ∧ W'.cell? ⟨l, 2, none⟩ = some (.slice V.A2 x.exc.length V.k2) ∧ W'.cell? ⟨l, 3, none⟩ = some (.slice V.C c.ents.length V.a) ∧ W'.cell? ⟨l, 4, none⟩ = some (.slice V.B c.grps.length V.b) ∧ W'.cell? ⟨l, 5, none⟩ = some (.int .i64 c.base) ∧ W'.cell? ⟨l, 6, none⟩ = some (.int .i64 c.second) ∧ W'.cell? ⟨l, 7, none⟩ = some (.int .i64 c.third) ∧ W'.cell? ⟨l, 8, none⟩ = some (.int .i64 o.st) ∧ W'.cell? ⟨l, 9, none⟩ = some (.int .i64 o.va) ∧ W'.cell? ⟨l, 10, none⟩ = some (.bool o.bk) ∧ W'.cell? ⟨l, 11, none⟩ = some (.bool o.idn) ∧ Below w.heap.size w W') ∧ (∃ A c, v = .slice A ky.length c ∧ W'.ownsRow w.heap.size 3 1 (.slice A ky.length c) ky.length (ky.map (Value.int .i64)) ∧ Below w.heap.size w W')) (fun e W' ⟨A, c, he, g1, g2⟩ => ⟨_, he, SH.out W' (hb'.trans (g2.mono hb'.size)), A, c, rfl, own_mono g1 hb'.size, hb'.trans (g2.mono hb'.size)⟩))
  clear h hD hio X0 EK KC
  go_enter Tryz.func45, Tryz.ntmps45
  go_upto_region 1 with (fail)
  refine wp_region_held_drew (S := fun W' => W'.cell? ⟨l, 0, none⟩ = some (.slice V.A0 x.cls.length V.k0) ∧ W'.cell? ⟨l, 1, none⟩ = some (.slice V.A1 x.dec.length V.k1) ∧ W'.cell? ⟨l, 2, none⟩ = some (.slice V.A2 x.exc.length V.k2) ∧ W'.cell? ⟨l, 3, none⟩ = some (.slice V.C c.ents.length V.a) ∧ W'.cell? ⟨l, 4, none⟩ = some (.slice V.B c.grps.length V.b) ∧ W'.cell? ⟨l, 5, none⟩ = some (.int .i64 c.base) ∧ W'.cell? ⟨l, 6, none⟩ = some (.int .i64 c.second) ∧ W'.cell? ⟨l, 7, none⟩ = some (.int .i64 c.third) ∧ W'.cell? ⟨l, 8, none⟩ = some (.int .i64 o.st) ∧ W'.cell? ⟨l, 9, none⟩ = some (.int .i64 o.va) ∧ W'.cell? ⟨l, 10, none⟩ = some (.bool o.bk) ∧ W'.cell? ⟨l, 11, none⟩ = some (.bool o.idn) ∧ Below w.heap.size w W') (by kernel_rfl) (SH.out _ ((Below.refl _ _).drew)) (fun hHeld => ?_)
  refine anyH_take (i := 0) (v := ?_) (some 5) rfl rfl (by kernel_rfl) (by kernel_rfl) (by kernel_rfl) (fun _ _ _ h => h) (by rfl) (by assumption) ?_ ?_
  rotate_left
  · intro w hSw; (try dsimp only at hSw); go_split_ands; go_simp; try (with_reducible rfl)
  try simp only [Act.put, List.setIfInBounds_toArray, List.set_cons_zero, List.set_cons_succ]
  refine anyH_take (i := 1) (v := ?_) (some 6) rfl rfl (by kernel_rfl) (by kernel_rfl) (by kernel_rfl) (fun _ _ _ h => h) (by rfl) (by assumption) ?_ ?_
  rotate_left
  · intro w hSw; (try dsimp only at hSw); go_split_ands; go_simp; try (with_reducible rfl)
  try simp only [Act.put, List.setIfInBounds_toArray, List.set_cons_zero, List.set_cons_succ]
  refine anyH_take (i := 2) (v := ?_) (some 7) rfl rfl (by kernel_rfl) (by kernel_rfl) (by kernel_rfl) (fun _ _ _ h => h) (by rfl) (by assumption) ?_ ?_
  rotate_left
  · intro w hSw; (try dsimp only at hSw); go_split_ands; go_simp; try (with_reducible rfl)
  try simp only [Act.put, List.setIfInBounds_toArray, List.set_cons_zero, List.set_cons_succ]
  refine anyH_take (i := 3) (v := ?_) (some 8) rfl rfl (by kernel_rfl) (by kernel_rfl) (by kernel_rfl) (fun _ _ _ h => h) (by rfl) (by assumption) ?_ ?_
  rotate_left
  · intro w hSw; (try dsimp only at hSw); go_split_ands; go_simp; try (with_reducible rfl)
  try simp only [Act.put, List.setIfInBounds_toArray, List.set_cons_zero, List.set_cons_succ]
  refine anyH_take (i := 4) (v := ?_) (some 9) rfl rfl (by kernel_rfl) (by kernel_rfl) (by kernel_rfl) (fun _ _ _ h => h) (by rfl) (by assumption) ?_ ?_
  rotate_left
  · intro w hSw; (try dsimp only at hSw); go_split_ands; go_simp; try (with_reducible rfl)
  try simp only [Act.put, List.setIfInBounds_toArray, List.set_cons_zero, List.set_cons_succ]
  refine anyH_take (i := 5) (v := ?_) (some 10) rfl rfl (by kernel_rfl) (by kernel_rfl) (by kernel_rfl) (fun _ _ _ h => h) (by rfl) (by assumption) ?_ ?_
  rotate_left
  · intro w hSw; (try dsimp only at hSw); go_split_ands; go_simp; try (with_reducible rfl)
  try simp only [Act.put, List.setIfInBounds_toArray, List.set_cons_zero, List.set_cons_succ]
  refine anyH_take (i := 6) (v := ?_) (some 11) rfl rfl (by kernel_rfl) (by kernel_rfl) (by kernel_rfl) (fun _ _ _ h => h) (by rfl) (by assumption) ?_ ?_
  rotate_left
  · intro w hSw; (try dsimp only at hSw); go_split_ands; go_simp; try (with_reducible rfl)
  try simp only [Act.put, List.setIfInBounds_toArray, List.set_cons_zero, List.set_cons_succ]
  refine anyH_take (i := 7) (v := ?_) (some 12) rfl rfl (by kernel_rfl) (by kernel_rfl) (by kernel_rfl) (fun _ _ _ h => h) (by rfl) (by assumption) ?_ ?_
  rotate_left
  · intro w hSw; (try dsimp only at hSw); go_split_ands; go_simp; try (with_reducible rfl)
  try simp only [Act.put, List.setIfInBounds_toArray, List.set_cons_zero, List.set_cons_succ]
  refine anyH_take (i := 8) (v := ?_) (some 13) rfl rfl (by kernel_rfl) (by kernel_rfl) (by kernel_rfl) (fun _ _ _ h => h) (by rfl) (by assumption) ?_ ?_
  rotate_left
  · intro w hSw; (try dsimp only at hSw); go_split_ands; go_simp; try (with_reducible rfl)
  try simp only [Act.put, List.setIfInBounds_toArray, List.set_cons_zero, List.set_cons_succ]
  refine anyH_take (i := 9) (v := ?_) (some 14) rfl rfl (by kernel_rfl) (by kernel_rfl) (by kernel_rfl) (fun _ _ _ h => h) (by rfl) (by assumption) ?_ ?_
  rotate_left
  · intro w hSw; (try dsimp only at hSw); go_split_ands; go_simp; try (with_reducible rfl)
  try simp only [Act.put, List.setIfInBounds_toArray, List.set_cons_zero, List.set_cons_succ]
  refine anyH_take (i := 10) (v := ?_) (some 15) rfl rfl (by kernel_rfl) (by kernel_rfl) (by kernel_rfl) (fun _ _ _ h => h) (by rfl) (by assumption) ?_ ?_
  rotate_left
  · intro w hSw; (try dsimp only at hSw); go_split_ands; go_simp; try (with_reducible rfl)
  try simp only [Act.put, List.setIfInBounds_toArray, List.set_cons_zero, List.set_cons_succ]
  refine anyH_take (i := 11) (v := ?_) (some 16) rfl rfl (by kernel_rfl) (by kernel_rfl) (by kernel_rfl) (fun _ _ _ h => h) (by rfl) (by assumption) ?_ ?_
  rotate_left
  · intro w hSw; (try dsimp only at hSw); go_split_ands; go_simp; try (with_reducible rfl)
  try simp only [Act.put, List.setIfInBounds_toArray, List.set_cons_zero, List.set_cons_succ]
  refine anyH_take (i := 12) (v := ?_) (some 17) rfl rfl (by kernel_rfl) (by kernel_rfl) (by kernel_rfl) (fun _ _ _ h => h) (by rfl) (by assumption) ?_ ?_
  rotate_left
  · intro w hSw; (try dsimp only at hSw); go_split_ands; go_simp; try (with_reducible rfl)
  try simp only [Act.put, List.setIfInBounds_toArray, List.set_cons_zero, List.set_cons_succ]
  refine anyH_callE (i := 13) (some 18) rfl rfl (by kernel_rfl) (by rfl) (by go_simp) (TK.out _ hHeld.2.2.2.2.2.2.2.2.2.2.2.2) ?_
  rintro _ W5 hS6 ⟨A5, c5, rfl, hO5, hb5⟩
  clear hHeld
  have hHeld := hS6
  clear hS6
  try simp only [Act.put, List.setIfInBounds_toArray, List.set_cons_zero, List.set_cons_succ]
  refine anyH_take (i := 14) (v := ?_) (some 4) rfl rfl (by kernel_rfl) (by kernel_rfl) (by kernel_rfl) (fun _ _ _ h => h) (by rfl) (by assumption) ?_ ?_
  rotate_left
  · intro w hSw; (try dsimp only at hSw); go_split_ands; go_simp; try (with_reducible rfl)
  try simp only [Act.put, List.setIfInBounds_toArray, List.set_cons_zero, List.set_cons_succ]
  refine wpAnyH_done (by kernel_rfl) ?_ _
  clear hHeld SH TK
  go_wp2_with fail
  go_ret
  exact ⟨A5, c5, rfl, hO5, hb5⟩

set_option maxRecDepth 100000 in
set_option maxHeartbeats 12800000 in
theorem slPlace1_any {w : World} {l bs : Nat} {V : LsV} {mb : Nat} {O : Option Addr} {oc cnt : Nat} {x : Nrm} {c : Col} {o : Opt} {f : Int → Option Value} {L : Its} (h : Lst w l bs V mb O oc cnt x c o f L) (b1 b2 b3 : Nat) (D : Option Addr) (dk : Nat) (k : List Int) (id : Int) (i : Nat) (h1 : Box w b1 40 [.pointer (some ⟨l, 0, none⟩)]) (h2 : Box w b2 49 [.slice D k.length dk]) (h3 : Box w b3 3 [.int .i64 id]) (hD : Ints w D k) (hbig : k.length ≤ 9223372036854775807) (hi : i < L.length) :
    Calls Tryz.prog 86 #[.int .i64 i, .pointer (some ⟨b1, 0, none⟩), .pointer (some ⟨b2, 0, none⟩), .pointer (some ⟨b3, 0, none⟩)] w (RetBool (decide (¬ ltI (kyN x c o L[i].2, L[i].1) (k, id))) w) := by
  obtain ⟨g, rfl, hg1, hg2, hcell⟩ := h.at hi
  obtain ⟨T, tk, K, kk, hf, hT, hK⟩ := h.get hi
  have hid' := (h.ok _ (List.getElem_mem hi)).1
  have hkl := kyN_len x c o L[i].2
  have htl := (h.ok _ (List.getElem_mem hi)).2.1
  have X0 := h.box
  unfold lsC at X0
  have l0 := X0.lt
  have HM := Lib.hid (fun W (hb : Below w.heap.size w W) => (h.map.is.below hb : MapI W mb cnt f))
  have OG := Lib.hid (or_geq (kyN x c o L[i].2, L[i].1) (k, id))
  have hL100 := h.len
  dsimp only at OG
  generalize kyN x c o L[i].2 = ky at *
  generalize L[i].2.length = tl at *
  generalize L[i].1 = id' at *
  have HID := Lib.hid hid'
  have HF := Lib.hid hf
  have q1 := h1.cell (i := 0) rfl
  have l1 := h1.lt
  have l2 := h2.lt
  have l3 := h3.lt
  have c13 := X0.cell (i := 13) rfl
  have SH := Lib.hid (fun W' (hb' : Below w.heap.size w W') => show W'.cell? ⟨b1, 0, none⟩ = some (.pointer (some ⟨l, 0, none⟩)) ∧ W'.cell? ⟨b2, 0, none⟩ = some (.slice D k.length dk) ∧ W'.cell? ⟨b3, 0, none⟩ = some (.int .i64 id) ∧ W'.cell? ⟨l, 12, none⟩ = some (.map (some mb)) ∧ Below w.heap.size w W' from ⟨(h1.below hb' l1).cell (i := 0) rfl, (h2.below hb' l2).cell (i := 0) rfl, (h3.below hb' l3).cell (i := 0) rfl, (X0.below hb' l0).cell (i := 12) rfl, hb'⟩)
  have TC1 := Lib.hid (fun W (hb' : Below w.heap.size w W) => (cpCompare_any K D ky.length k.length kk dk ky k W (hK.1.below hb') (hD.below hb') rfl rfl (by omega) hbig).mono (R' := fun e W' => e = .returned (.int .i64 (cmpL ky k)) ∧ (W'.cell? ⟨b1, 0, none⟩ = some (.pointer (some ⟨l, 0, none⟩)) ∧ W'.cell? ⟨b2, 0, none⟩ = some (.slice D k.length dk) ∧ W'.cell? ⟨b3, 0, none⟩ = some (.int .i64 id) ∧ W'.cell? ⟨l, 12, none⟩ = some (.map (some mb)) ∧ Below w.heap.size w W')) (fun e W' hh => ⟨hh.1, SH.out W' (hb'.trans (hh.2.below.mono hb'.size))⟩))
  have TC2 := Lib.hid (fun W (hb' : Below w.heap.size w W) => (cmpCompare_any id' id W).mono (R' := fun e W' => e = .returned (.int .i64 (cmpI id' id)) ∧ (W'.cell? ⟨b1, 0, none⟩ = some (.pointer (some ⟨l, 0, none⟩)) ∧ W'.cell? ⟨b2, 0, none⟩ = some (.slice D k.length dk) ∧ W'.cell? ⟨b3, 0, none⟩ = some (.int .i64 id) ∧ W'.cell? ⟨l, 12, none⟩ = some (.map (some mb)) ∧ Below w.heap.size w W')) (fun e W' hh => ⟨hh.1, SH.out W' (hh.2 ▸ hb')⟩))
  have TC3 := Lib.hid (fun (B : Nat) W (hb' : Below w.heap.size w W) (hB : Ints W (some ⟨B, 0, none⟩) [cmpL ky k, cmpI id' id]) => (or2_any B 2 (cmpL ky k) (cmpI id' id) W hB).mono (R' := fun e W' => e = .returned (.int .i64 (orI (cmpL ky k) (cmpI id' id))) ∧ (W'.cell? ⟨b1, 0, none⟩ = some (.pointer (some ⟨l, 0, none⟩)) ∧ W'.cell? ⟨b2, 0, none⟩ = some (.slice D k.length dk) ∧ W'.cell? ⟨b3, 0, none⟩ = some (.int .i64 id) ∧ W'.cell? ⟨l, 12, none⟩ = some (.map (some mb)) ∧ Below w.heap.size w W')) (fun e W' hh => ⟨hh.1, SH.out W' (hh.2 ▸ hb')⟩))
  generalize cmpL ky k = c1 at *
  generalize cmpI id' id = c2 at *
  generalize orI c1 c2 = ov at *
  clear h h1 h2 h3 hD hf hT hK X0 hid' hkl htl
  go_enter Tryz.func86, Tryz.ntmps86
  go_upto_region 2 with (fail)
  refine wp_region_held_drew (S := fun W' => W'.cell? ⟨b1, 0, none⟩ = some (.pointer (some ⟨l, 0, none⟩)) ∧ W'.cell? ⟨b2, 0, none⟩ = some (.slice D k.length dk) ∧ W'.cell? ⟨b3, 0, none⟩ = some (.int .i64 id) ∧ W'.cell? ⟨l, 12, none⟩ = some (.map (some mb)) ∧ Below w.heap.size w W') (by kernel_rfl) (SH.out _ ((Below.refl _ _).drew)) (fun hHeld => ?_)
  refine anyH_take (i := 0) (v := ?_) (some 14) rfl rfl (by kernel_rfl) (by kernel_rfl) (by kernel_rfl) (fun _ _ _ h => h) (by rfl) (by assumption) ?_ ?_
  rotate_left
  · intro w hSw; (try dsimp only at hSw); go_split_ands; go_simp; try (with_reducible rfl)
  try simp only [Act.put, List.setIfInBounds_toArray, List.set_cons_zero, List.set_cons_succ]
  refine anyH_take (i := 1) (v := ?_) (some 15) rfl rfl (by kernel_rfl) (by kernel_rfl) (by kernel_rfl) (fun _ _ _ h => h) (by rfl) (by assumption) ?_ ?_
  rotate_left
  · intro w hSw; (try dsimp only at hSw); go_split_ands; go_simp; try (with_reducible rfl)
  try simp only [Act.put, List.setIfInBounds_toArray, List.set_cons_zero, List.set_cons_succ]
  refine anyH_take (i := 2) (v := ?_) (some 16) rfl rfl (by kernel_rfl) (by kernel_rfl) (by kernel_rfl) (fun _ _ _ h => h) (by rfl) (by assumption) ?_ ?_
  rotate_left
  · intro w hSw; (try dsimp only at hSw); go_split_ands; go_simp; try (with_reducible rfl)
  try simp only [Act.put, List.setIfInBounds_toArray, List.set_cons_zero, List.set_cons_succ]
  refine anyH_take (i := 3) (v := ?_) (some 17) rfl rfl (by kernel_rfl) (by kernel_rfl) (by kernel_rfl) (fun _ _ _ h => h) (by rfl) (by assumption) ?_ ?_
  rotate_left
  · intro w hSw; (try dsimp only at hSw); go_split_ands; go_simp; try (with_reducible rfl)
  try simp only [Act.put, List.setIfInBounds_toArray, List.set_cons_zero, List.set_cons_succ]
  refine anyH_take (i := 4) (v := ?_) (some 18) rfl rfl (by kernel_rfl) (by kernel_rfl) (by kernel_rfl) (fun _ _ _ h => h) (by rfl) (by assumption) ?_ ?_
  rotate_left
  · intro w hSw; (try dsimp only at hSw); go_split_ands; go_simp; try (with_reducible rfl)
  try simp only [Act.put, List.setIfInBounds_toArray, List.set_cons_zero, List.set_cons_succ]
  refine anyH_look (i := 5) (v := .agg #[.slice T tl tk, .slice K ky.length kk]) (some 19) rfl rfl (by kernel_rfl) (by kernel_rfl) (by kernel_rfl) (fun _ _ _ h => h) (by rfl) (by assumption) _ _ 78 rfl (fun W hS => HM.out W hS.2.2.2.2) law_int Tryz.underlying78 zero_item rfl rfl HID.out (key_int HID.out) (by rw [HF.out]; rfl) ?_
  try simp only [Act.put, List.setIfInBounds_toArray, List.set_cons_zero, List.set_cons_succ]
  refine anyH_take (i := 6) (v := .slice K ky.length kk) (some 20) rfl rfl (by kernel_rfl) (by kernel_rfl) (by kernel_rfl) (fun _ _ _ h => h) (by rfl) (by assumption) (fun W _ => fld1 _ _ W) ?_
  try simp only [Act.put, List.setIfInBounds_toArray, List.set_cons_zero, List.set_cons_succ]
  refine anyH_take (i := 7) (v := ?_) (some 21) rfl rfl (by kernel_rfl) (by kernel_rfl) (by kernel_rfl) (fun _ _ _ h => h) (by rfl) (by assumption) ?_ ?_
  rotate_left
  · intro w hSw; (try dsimp only at hSw); go_split_ands; go_simp; try (with_reducible rfl)
  try simp only [Act.put, List.setIfInBounds_toArray, List.set_cons_zero, List.set_cons_succ]
  refine anyH_take (i := 9) (v := ?_) (some 23) rfl rfl (by kernel_rfl) (by kernel_rfl) (by kernel_rfl) (fun _ _ _ h => h) (by rfl) (by assumption) ?_ ?_
  rotate_left
  · intro w hSw; (try dsimp only at hSw); go_split_ands; go_simp; try (with_reducible rfl)
  try simp only [Act.put, List.setIfInBounds_toArray, List.set_cons_zero, List.set_cons_succ]
  refine anyH_take (i := 10) (v := ?_) (some 24) rfl rfl (by kernel_rfl) (by kernel_rfl) (by kernel_rfl) (fun _ _ _ h => h) (by rfl) (by assumption) ?_ ?_
  rotate_left
  · intro w hSw; (try dsimp only at hSw); go_split_ands; go_simp; try (with_reducible rfl)
  try simp only [Act.put, List.setIfInBounds_toArray, List.set_cons_zero, List.set_cons_succ]
  refine anyH_call (i := 8) (some 22) rfl rfl (by kernel_rfl) (by rfl) (by go_simp) (TC1.out _ hHeld.2.2.2.2) (fun W5 hS6 => ?_)
  clear hHeld
  have hHeld := hS6
  clear hS6
  try simp only [Act.put, List.setIfInBounds_toArray, List.set_cons_zero, List.set_cons_succ]
  refine anyH_call (i := 11) (some 25) rfl rfl (by kernel_rfl) (by rfl) (by go_simp) (TC2.out _ hHeld.2.2.2.2) (fun W6 hS6 => ?_)
  clear hHeld
  have hHeld := hS6
  clear hS6
  try simp only [Act.put, List.setIfInBounds_toArray, List.set_cons_zero, List.set_cons_succ]
  have Sn := SH.out (W6.alloc (.cells #[.int .i64 c1, .int .i64 c2] 3)) (hHeld.2.2.2.2.alloc hHeld.2.2.2.2.size _)
  have HI2 := Lib.hid (show Ints (W6.alloc (.cells #[.int .i64 c1, .int .i64 c2] 3)) (some ⟨W6.heap.size, 0, none⟩) [c1, c2] from Ints_new W6 [c1, c2] 3 rfl)
  refine anyH_val (w' := (W6.alloc (.cells #[.int .i64 c1, .int .i64 c2] 3))) (v := .slice (some ⟨W6.heap.size, 0, none⟩) 2 2) (i := 12) (some 26) rfl rfl (by kernel_rfl) (by rfl) (by go_simp) Sn ?_
  clear hHeld
  have hHeld := Sn
  try simp only [Act.put, List.setIfInBounds_toArray, List.set_cons_zero, List.set_cons_succ]
  refine anyH_call (i := 13) (some 27) rfl rfl (by kernel_rfl) (by rfl) (by go_simp) (TC3.out _ _ hHeld.2.2.2.2 HI2.out) (fun W7 hS6 => ?_)
  clear hHeld
  have hHeld := hS6
  clear hS6
  try simp only [Act.put, List.setIfInBounds_toArray, List.set_cons_zero, List.set_cons_succ]
  refine anyH_take (i := 14) (v := ?_) (some 28) rfl rfl (by kernel_rfl) (by kernel_rfl) (by kernel_rfl) (fun _ _ _ h => h) (by rfl) (by assumption) ?_ ?_
  rotate_left
  · intro w hSw; (try dsimp only at hSw); go_split_ands; go_simp; try (with_reducible rfl)
  try simp only [Act.put, List.setIfInBounds_toArray, List.set_cons_zero, List.set_cons_succ]
  refine anyH_take (i := 15) (v := ?_) (some 5) rfl rfl (by kernel_rfl) (by kernel_rfl) (by kernel_rfl) (fun _ _ _ h => h) (by rfl) (by assumption) ?_ ?_
  rotate_left
  · intro w hSw; (try dsimp only at hSw); go_split_ands; go_simp; try (with_reducible rfl)
  try simp only [Act.put, List.setIfInBounds_toArray, List.set_cons_zero, List.set_cons_succ]
  refine wpAnyH_done (by kernel_rfl) ?_ _
  have hbf := hHeld.2.2.2.2
  clear hHeld SH TC1 TC2 TC3
  go_wp2_with fail
  go_ret
  exact ⟨ret_bool OG.out, hbf⟩

theorem found_plc {K : List Int → List Int} {L : Its} (h : Srt K L) {n r : Nat} (hn : n = L.length) {q : It} (hf : Found n (fun i => decide (¬ ltI ((kL K L).getD i ([], 0)) q)) r) : r = plc (kL K L) q := by
  subst hn
  have hl := kL_len (K := K) (L := L)
  have hp : plc (kL K L) q ≤ L.length := by unfold plc; exact Nat.le_trans (cnt_le _) (by omega)
  have gd : ∀ i, (hi : i < (kL K L).length) → (kL K L).getD i ([], 0) = (kL K L)[i] := fun i hi => by simp [List.getD, hi]
  have h1 := hf.le
  rcases Nat.lt_trichotomy r (plc (kL K L) q) with g | g | g
  · have := hf.hi r (Nat.le_refl _) (by omega)
    rw [gd r (by omega), decide_eq_true_eq] at this
    exact absurd ((plc_iff h.asc q r (by omega)).2 g) this
  · exact g
  · have := hf.lo _ g
    rw [gd _ (by omega), decide_eq_false_iff_not, Classical.not_not] at this
    have := (plc_iff h.asc q (plc (kL K L) q) (by omega)).1 this
    omega
theorem found_frm {K : List Int → List Int} {L : Its} (h : Srt K L) {n r : Nat} (hn : n = L.length) {k : List Int} (hf : Found n (fun i => decide (0 ≤ cmpL ((kL K L).getD i ([], 0)).1 k)) r) : r = frm (kL K L) k := by
  subst hn
  have hl := kL_len (K := K) (L := L)
  have hp : frm (kL K L) k ≤ L.length := by unfold frm; exact Nat.le_trans (cnt_le _) (by omega)
  have gd : ∀ i, (hi : i < (kL K L).length) → (kL K L).getD i ([], 0) = (kL K L)[i] := fun i hi => by simp [List.getD, hi]
  have h1 := hf.le
  rcases Nat.lt_trichotomy r (frm (kL K L) k) with g | g | g
  · have := hf.hi r (Nat.le_refl _) (by omega)
    rw [gd r (by omega), decide_eq_true_eq] at this
    have := (frm_iff h.asc k r (by omega)).2 g
    omega
  · exact g
  · have := hf.lo _ g
    rw [gd _ (by omega), decide_eq_false_iff_not] at this
    have := (frm_iff h.asc k (frm (kL K L) k) (by omega)).1 (by omega)
    omega

set_option maxRecDepth 100000 in
set_option maxHeartbeats 12800000 in
theorem slPlace_any {w : World} {l bs : Nat} {V : LsV} {mb : Nat} {O : Option Addr} {oc cnt : Nat} {x : Nrm} {c : Col} {o : Opt} {f : Int → Option Value} {L : Its} (h : Lst w l bs V mb O oc cnt x c o f L) (D : Option Addr) (dk : Nat) (k : List Int) (id : Int) (hD : Ints w D k) (hbig : k.length ≤ 9223372036854775807) :
    Calls Tryz.prog 46 #[.pointer (some ⟨l, 0, none⟩), .slice D k.length dk, .int .i64 id] w (RetInt (plc (kL (kyN x c o) L) (k, id) : Nat) w) := by
  have B0 : Below w.heap.size w (((w.alloc (.cells #[.pointer (some ⟨l, 0, none⟩)] 40)).alloc (.cells #[.slice D k.length dk] 49)).alloc (.cells #[.int .i64 id] 3)) := (((Below.refl _ _).alloc (Nat.le_refl _) _).alloc (by simp) _).alloc (by simp <;> omega) _
  have X0 : Box (((w.alloc (.cells #[.pointer (some ⟨l, 0, none⟩)] 40)).alloc (.cells #[.slice D k.length dk] 49)).alloc (.cells #[.int .i64 id] 3)) w.heap.size 40 [.pointer (some ⟨l, 0, none⟩)] := bx_alloc (bx_alloc (Box.new w 40 [.pointer (some ⟨l, 0, none⟩)] rfl) _) _
  have X1 : Box (((w.alloc (.cells #[.pointer (some ⟨l, 0, none⟩)] 40)).alloc (.cells #[.slice D k.length dk] 49)).alloc (.cells #[.int .i64 id] 3)) (w.heap.size + 1) 49 [.slice D k.length dk] := bx_alloc (Box.new _ 49 [.slice D k.length dk] (by simp)) _
  have X2 : Box (((w.alloc (.cells #[.pointer (some ⟨l, 0, none⟩)] 40)).alloc (.cells #[.slice D k.length dk] 49)).alloc (.cells #[.int .i64 id] 3)) (w.heap.size + 1 + 1) 3 [.int .i64 id] := Box.new _ _ _ (by simp)
  have W0E : ∃ W0, (((w.alloc (.cells #[.pointer (some ⟨l, 0, none⟩)] 40)).alloc (.cells #[.slice D k.length dk] 49)).alloc (.cells #[.int .i64 id] 3)) = W0 := ⟨_, rfl⟩
  have HH := Lib.hid h
  have HD := Lib.hid hD
  have FP := Lib.hid (fun r (hf : Found L.length (fun i => decide (¬ ltI ((kL (kyN x c o) L).getD i ([], 0)) (k, id))) r) => found_plc h.srt rfl hf)
  have HS := Lib.hid (fun i (hi : i < L.length) => plc_iff h.srt.asc (k, id) i (by rw [kL_len]; exact hi))
  have hb := h.box
  unfold lsC at hb
  have l0 := hb.lt
  have hL100 := h.len
  clear h hD
  go_enter Tryz.func46, Tryz.ntmps46
  go_upto_region 1 with (fail)
  obtain ⟨W0, hW0⟩ := W0E
  try rw [hW0] at B0 X0 X1 X2 ⊢
  clear hW0
  have q0 := X0.cell (i := 0) rfl
  have c13 := (hb.below B0 l0).cell (i := 13) rfl
  have e0 := X0.lt
  have e1 := X1.lt
  have e2 := X2.lt
  have SC := Lib.hid (search_any 86 #[.pointer (some ⟨w.heap.size, 0, none⟩), .pointer (some ⟨w.heap.size + 1, 0, none⟩), .pointer (some ⟨w.heap.size + 1 + 1, 0, none⟩)] L.length (fun i => decide (¬ ltI ((kL (kyN x c o) L).getD i ([], 0)) (k, id))) W0 (enters_of Tryz.func86 (by kernel_rfl) rfl) (by omega)
    (fun i W hi hb' => by
      have h1 := slPlace1_any (HH.out.below (B0.trans (hb'.mono B0.size))) w.heap.size (w.heap.size + 1) (w.heap.size + 1 + 1) D dk k id i (X0.below hb' e0) (X1.below hb' e1) (X2.below hb' e2) (HD.out.below (B0.trans (hb'.mono B0.size))) hbig hi
      have e : (kL (kyN x c o) L).getD i ([], 0) = (kyN x c o L[i].2, L[i].1) := by
        have hi' : i < (kL (kyN x c o) L).length := by rw [kL_len]; exact hi
        rw [show (kL (kyN x c o) L).getD i ([], 0) = (kL (kyN x c o) L)[i] by simp [List.getD, hi'], kL_get i hi]
      rw [e]
      exact h1)
    (fun a b hab hb h => by
      have gd : ∀ i, (hi : i < L.length) → (kL (kyN x c o) L).getD i ([], 0) = (kL (kyN x c o) L)[i]'(by rw [kL_len]; exact hi) := fun i hi => by simp [List.getD, show i < (kL (kyN x c o) L).length by rw [kL_len]; exact hi]
      have ha : a < L.length := by omega
      simp only [gd a ha, gd b hb, decide_eq_true_eq] at h ⊢
      rw [HS.out a ha] at h
      rw [HS.out b hb]
      omega))
  clear HH HD HS X0 X1 X2 hb
  go_wp2_with fail
  with_reducible refine SC.out.mono ?_
  rintro e w1 ⟨r, rfl, hf, hb1⟩
  obtain rfl := FP.out r hf
  clear SC FP hf q0 c13
  go_wp2_with fail
  go_ret
  exact ⟨rfl, B0.trans (hb1.mono B0.size)⟩

set_option maxRecDepth 100000 in
set_option maxHeartbeats 12800000 in
theorem slFrom1_any {w : World} {l bs : Nat} {V : LsV} {mb : Nat} {O : Option Addr} {oc cnt : Nat} {x : Nrm} {c : Col} {o : Opt} {f : Int → Option Value} {L : Its} (h : Lst w l bs V mb O oc cnt x c o f L) (b1 b2 : Nat) (D : Option Addr) (dk : Nat) (k : List Int) (i : Nat) (h1 : Box w b1 40 [.pointer (some ⟨l, 0, none⟩)]) (h2 : Box w b2 49 [.slice D k.length dk]) (hD : Ints w D k) (hbig : k.length ≤ 9223372036854775807) (hi : i < L.length) :
    Calls Tryz.prog 91 #[.int .i64 i, .pointer (some ⟨b1, 0, none⟩), .pointer (some ⟨b2, 0, none⟩)] w (RetBool (decide (0 ≤ cmpL (kyN x c o L[i].2) k)) w) := by
  obtain ⟨g, rfl, hg1, hg2, hcell⟩ := h.at hi
  obtain ⟨T, tk, K, kk, hf, hT, hK⟩ := h.get hi
  have hid' := (h.ok _ (List.getElem_mem hi)).1
  have hkl := kyN_len x c o L[i].2
  have htl := (h.ok _ (List.getElem_mem hi)).2.1
  have X0 := h.box
  unfold lsC at X0
  have l0 := X0.lt
  have HM := Lib.hid (fun W (hb : Below w.heap.size w W) => (h.map.is.below hb : MapI W mb cnt f))
  have hL100 := h.len
  generalize kyN x c o L[i].2 = ky at *
  generalize L[i].2.length = tl at *
  generalize L[i].1 = id' at *
  have HID := Lib.hid hid'
  have HF := Lib.hid hf
  have l1 := h1.lt
  have l2 := h2.lt
  have SH := Lib.hid (fun W' (hb' : Below w.heap.size w W') => show W'.cell? ⟨b1, 0, none⟩ = some (.pointer (some ⟨l, 0, none⟩)) ∧ W'.cell? ⟨b2, 0, none⟩ = some (.slice D k.length dk) ∧ W'.cell? ⟨l, 12, none⟩ = some (.map (some mb)) ∧ W'.cell? ⟨l, 13, none⟩ = some (.slice (some ⟨g, 0, none⟩) L.length oc) ∧ W'.cell? ⟨g, i, none⟩ = some (.int .i64 id') ∧ Below w.heap.size w W' from ⟨(h1.below hb' l1).cell (i := 0) rfl, (h2.below hb' l2).cell (i := 0) rfl, (X0.below hb' l0).cell (i := 12) rfl, (X0.below hb' l0).cell (i := 13) rfl, (hb'.cell (p := ⟨g, i, none⟩) hg2).trans hcell, hb'⟩)
  have TC1 := Lib.hid (fun W (hb' : Below w.heap.size w W) => (cpCompare_any K D ky.length k.length kk dk ky k W (hK.1.below hb') (hD.below hb') rfl rfl (by omega) hbig).mono (R' := fun e W' => e = .returned (.int .i64 (cmpL ky k)) ∧ (W'.cell? ⟨b1, 0, none⟩ = some (.pointer (some ⟨l, 0, none⟩)) ∧ W'.cell? ⟨b2, 0, none⟩ = some (.slice D k.length dk) ∧ W'.cell? ⟨l, 12, none⟩ = some (.map (some mb)) ∧ W'.cell? ⟨l, 13, none⟩ = some (.slice (some ⟨g, 0, none⟩) L.length oc) ∧ W'.cell? ⟨g, i, none⟩ = some (.int .i64 id') ∧ Below w.heap.size w W')) (fun e W' hh => ⟨hh.1, SH.out W' (hb'.trans (hh.2.below.mono hb'.size))⟩))
  generalize cmpL ky k = c1 at *
  clear h h1 h2 hD hf hT hK X0 hid' hkl htl hcell
  go_enter Tryz.func91, Tryz.ntmps91
  go_upto_region 1 with (fail)
  refine wp_region_held_drew (S := fun W' => W'.cell? ⟨b1, 0, none⟩ = some (.pointer (some ⟨l, 0, none⟩)) ∧ W'.cell? ⟨b2, 0, none⟩ = some (.slice D k.length dk) ∧ W'.cell? ⟨l, 12, none⟩ = some (.map (some mb)) ∧ W'.cell? ⟨l, 13, none⟩ = some (.slice (some ⟨g, 0, none⟩) L.length oc) ∧ W'.cell? ⟨g, i, none⟩ = some (.int .i64 id') ∧ Below w.heap.size w W') (by kernel_rfl) (SH.out _ ((Below.refl _ _).drew)) (fun hHeld => ?_)
  refine anyH_take (i := 0) (v := ?_) (some 5) rfl rfl (by kernel_rfl) (by kernel_rfl) (by kernel_rfl) (fun _ _ _ h => h) (by rfl) (by assumption) ?_ ?_
  rotate_left
  · intro w hSw; (try dsimp only at hSw); go_split_ands; go_simp; try (with_reducible rfl)
  try simp only [Act.put, List.setIfInBounds_toArray, List.set_cons_zero, List.set_cons_succ]
  refine anyH_take (i := 1) (v := ?_) (some 6) rfl rfl (by kernel_rfl) (by kernel_rfl) (by kernel_rfl) (fun _ _ _ h => h) (by rfl) (by assumption) ?_ ?_
  rotate_left
  · intro w hSw; (try dsimp only at hSw); go_split_ands; go_simp; try (with_reducible rfl)
  try simp only [Act.put, List.setIfInBounds_toArray, List.set_cons_zero, List.set_cons_succ]
  refine anyH_take (i := 2) (v := ?_) (some 7) rfl rfl (by kernel_rfl) (by kernel_rfl) (by kernel_rfl) (fun _ _ _ h => h) (by rfl) (by assumption) ?_ ?_
  rotate_left
  · intro w hSw; (try dsimp only at hSw); go_split_ands; go_simp; try (with_reducible rfl)
  try simp only [Act.put, List.setIfInBounds_toArray, List.set_cons_zero, List.set_cons_succ]
  refine anyH_take (i := 3) (v := ?_) (some 8) rfl rfl (by kernel_rfl) (by kernel_rfl) (by kernel_rfl) (fun _ _ _ h => h) (by rfl) (by assumption) ?_ ?_
  rotate_left
  · intro w hSw; (try dsimp only at hSw); go_split_ands; go_simp; try (with_reducible rfl)
  try simp only [Act.put, List.setIfInBounds_toArray, List.set_cons_zero, List.set_cons_succ]
  refine anyH_take (i := 4) (v := ?_) (some 9) rfl rfl (by kernel_rfl) (by kernel_rfl) (by kernel_rfl) (fun _ _ _ h => h) (by rfl) (by assumption) ?_ ?_
  rotate_left
  · intro w hSw; (try dsimp only at hSw); go_split_ands; go_simp; try (with_reducible rfl)
  try simp only [Act.put, List.setIfInBounds_toArray, List.set_cons_zero, List.set_cons_succ]
  refine anyH_take (i := 5) (v := ?_) (some 10) rfl rfl (by kernel_rfl) (by kernel_rfl) (by kernel_rfl) (fun _ _ _ h => h) (by rfl) (by assumption) ?_ ?_
  rotate_left
  · intro w hSw; (try dsimp only at hSw); go_split_ands; go_simp; try (with_reducible rfl)
  try simp only [Act.put, List.setIfInBounds_toArray, List.set_cons_zero, List.set_cons_succ]
  refine anyH_take (i := 6) (v := ?_) (some 11) rfl rfl (by kernel_rfl) (by kernel_rfl) (by kernel_rfl) (fun _ _ _ h => h) (by rfl) (by assumption) ?_ ?_
  rotate_left
  · intro w hSw; (try dsimp only at hSw); go_split_ands; go_simp; try (with_reducible rfl)
  try simp only [Act.put, List.setIfInBounds_toArray, List.set_cons_zero, List.set_cons_succ]
  refine anyH_take (i := 7) (v := ?_) (some 12) rfl rfl (by kernel_rfl) (by kernel_rfl) (by kernel_rfl) (fun _ _ _ h => h) (by rfl) (by assumption) ?_ ?_
  rotate_left
  · intro w hSw; (try dsimp only at hSw); go_split_ands; go_simp; try (with_reducible rfl)
  try simp only [Act.put, List.setIfInBounds_toArray, List.set_cons_zero, List.set_cons_succ]
  refine anyH_take (i := 8) (v := ?_) (some 13) rfl rfl (by kernel_rfl) (by kernel_rfl) (by kernel_rfl) (fun _ _ _ h => h) (by rfl) (by assumption) ?_ ?_
  rotate_left
  · intro w hSw; (try dsimp only at hSw); go_split_ands; go_simp; try (with_reducible rfl)
  try simp only [Act.put, List.setIfInBounds_toArray, List.set_cons_zero, List.set_cons_succ]
  refine anyH_take (i := 9) (v := ?_) (some 14) rfl rfl (by kernel_rfl) (by kernel_rfl) (by kernel_rfl) (fun _ _ _ h => h) (by rfl) (by assumption) ?_ ?_
  rotate_left
  · intro w hSw; (try dsimp only at hSw); go_split_ands; go_simp; try (with_reducible rfl)
  try simp only [Act.put, List.setIfInBounds_toArray, List.set_cons_zero, List.set_cons_succ]
  refine anyH_take (i := 10) (v := ?_) (some 15) rfl rfl (by kernel_rfl) (by kernel_rfl) (by kernel_rfl) (fun _ _ _ h => h) (by rfl) (by assumption) ?_ ?_
  rotate_left
  · intro w hSw; (try dsimp only at hSw); go_split_ands; go_simp; try (with_reducible rfl)
  try simp only [Act.put, List.setIfInBounds_toArray, List.set_cons_zero, List.set_cons_succ]
  refine anyH_take (i := 13) (v := ?_) (some 18) rfl rfl (by kernel_rfl) (by kernel_rfl) (by kernel_rfl) (fun _ _ _ h => h) (by rfl) (by assumption) ?_ ?_
  rotate_left
  · intro w hSw; (try dsimp only at hSw); go_split_ands; go_simp; try (with_reducible rfl)
  try simp only [Act.put, List.setIfInBounds_toArray, List.set_cons_zero, List.set_cons_succ]
  refine anyH_look (i := 11) (v := .agg #[.slice T tl tk, .slice K ky.length kk]) (some 16) rfl rfl (by kernel_rfl) (by kernel_rfl) (by kernel_rfl) (fun _ _ _ h => h) (by rfl) (by assumption) _ _ 78 rfl (fun W hS => HM.out W hS.2.2.2.2.2) law_int Tryz.underlying78 zero_item rfl rfl HID.out (key_int HID.out) (by rw [HF.out]; rfl) ?_
  try simp only [Act.put, List.setIfInBounds_toArray, List.set_cons_zero, List.set_cons_succ]
  refine anyH_take (i := 12) (v := .slice K ky.length kk) (some 17) rfl rfl (by kernel_rfl) (by kernel_rfl) (by kernel_rfl) (fun _ _ _ h => h) (by rfl) (by assumption) (fun W _ => fld1 _ _ W) ?_
  try simp only [Act.put, List.setIfInBounds_toArray, List.set_cons_zero, List.set_cons_succ]
  refine anyH_call (i := 14) (some 19) rfl rfl (by kernel_rfl) (by rfl) (by go_simp) (TC1.out _ hHeld.2.2.2.2.2) (fun W5 hS6 => ?_)
  clear hHeld
  have hHeld := hS6
  clear hS6
  try simp only [Act.put, List.setIfInBounds_toArray, List.set_cons_zero, List.set_cons_succ]
  refine anyH_take (i := 15) (v := ?_) (some 20) rfl rfl (by kernel_rfl) (by kernel_rfl) (by kernel_rfl) (fun _ _ _ h => h) (by rfl) (by assumption) ?_ ?_
  rotate_left
  · intro w hSw; (try dsimp only at hSw); go_split_ands; go_simp; try (with_reducible rfl)
  try simp only [Act.put, List.setIfInBounds_toArray, List.set_cons_zero, List.set_cons_succ]
  refine anyH_take (i := 16) (v := ?_) (some 4) rfl rfl (by kernel_rfl) (by kernel_rfl) (by kernel_rfl) (fun _ _ _ h => h) (by rfl) (by assumption) ?_ ?_
  rotate_left
  · intro w hSw; (try dsimp only at hSw); go_split_ands; go_simp; try (with_reducible rfl)
  try simp only [Act.put, List.setIfInBounds_toArray, List.set_cons_zero, List.set_cons_succ]
  refine wpAnyH_done (by kernel_rfl) ?_ _
  have hbf := hHeld.2.2.2.2.2
  clear hHeld SH TC1
  go_wp2_with fail
  go_ret
  exact ⟨rfl, hbf⟩

set_option maxRecDepth 100000 in
set_option maxHeartbeats 12800000 in
theorem slFrom_any {w : World} {l bs : Nat} {V : LsV} {mb : Nat} {O : Option Addr} {oc cnt : Nat} {x : Nrm} {c : Col} {o : Opt} {f : Int → Option Value} {L : Its} (h : Lst w l bs V mb O oc cnt x c o f L) (D : Option Addr) (dk : Nat) (k : List Int) (hD : Ints w D k) (hbig : k.length ≤ 9223372036854775807) :
    Calls Tryz.prog 50 #[.pointer (some ⟨l, 0, none⟩), .slice D k.length dk] w (RetInt (frm (kL (kyN x c o) L) k : Nat) w) := by
  have B0 : Below w.heap.size w ((w.alloc (.cells #[.pointer (some ⟨l, 0, none⟩)] 40)).alloc (.cells #[.slice D k.length dk] 49)) := ((Below.refl _ _).alloc (Nat.le_refl _) _).alloc (by simp) _
  have X0 : Box ((w.alloc (.cells #[.pointer (some ⟨l, 0, none⟩)] 40)).alloc (.cells #[.slice D k.length dk] 49)) w.heap.size 40 [.pointer (some ⟨l, 0, none⟩)] := bx_alloc (Box.new w 40 [.pointer (some ⟨l, 0, none⟩)] rfl) _
  have X1 : Box ((w.alloc (.cells #[.pointer (some ⟨l, 0, none⟩)] 40)).alloc (.cells #[.slice D k.length dk] 49)) (w.heap.size + 1) 49 [.slice D k.length dk] := Box.new _ 49 [.slice D k.length dk] (by simp)
  have W0E : ∃ W0, ((w.alloc (.cells #[.pointer (some ⟨l, 0, none⟩)] 40)).alloc (.cells #[.slice D k.length dk] 49)) = W0 := ⟨_, rfl⟩
  have HH := Lib.hid h
  have HD := Lib.hid hD
  have FP := Lib.hid (fun r (hf : Found L.length (fun i => decide (0 ≤ cmpL ((kL (kyN x c o) L).getD i ([], 0)).1 k)) r) => found_frm h.srt rfl hf)
  have HS := Lib.hid (fun i (hi : i < L.length) => frm_iff h.srt.asc k i (by rw [kL_len]; exact hi))
  have hb := h.box
  unfold lsC at hb
  have l0 := hb.lt
  have hL100 := h.len
  clear h hD
  go_enter Tryz.func50, Tryz.ntmps50
  go_upto_region 1 with (fail)
  obtain ⟨W0, hW0⟩ := W0E
  try rw [hW0] at B0 X0 X1 ⊢
  clear hW0
  have q0 := X0.cell (i := 0) rfl
  have c13 := (hb.below B0 l0).cell (i := 13) rfl
  have e0 := X0.lt
  have e1 := X1.lt
  have SC := Lib.hid (search_any 91 #[.pointer (some ⟨w.heap.size, 0, none⟩), .pointer (some ⟨w.heap.size + 1, 0, none⟩)] L.length (fun i => decide (0 ≤ cmpL ((kL (kyN x c o) L).getD i ([], 0)).1 k)) W0 (enters_of Tryz.func91 (by kernel_rfl) rfl) (by omega)
    (fun i W hi hb' => by
      have h1 := slFrom1_any (HH.out.below (B0.trans (hb'.mono B0.size))) w.heap.size (w.heap.size + 1) D dk k i (X0.below hb' e0) (X1.below hb' e1) (HD.out.below (B0.trans (hb'.mono B0.size))) hbig hi
      have e : (kL (kyN x c o) L).getD i ([], 0) = (kyN x c o L[i].2, L[i].1) := by
        have hi' : i < (kL (kyN x c o) L).length := by rw [kL_len]; exact hi
        rw [show (kL (kyN x c o) L).getD i ([], 0) = (kL (kyN x c o) L)[i] by simp [List.getD, hi'], kL_get i hi]
      rw [e]
      exact h1)
    (fun a b hab hb h => by
      have gd : ∀ i, (hi : i < L.length) → (kL (kyN x c o) L).getD i ([], 0) = (kL (kyN x c o) L)[i]'(by rw [kL_len]; exact hi) := fun i hi => by simp [List.getD, show i < (kL (kyN x c o) L).length by rw [kL_len]; exact hi]
      have ha : a < L.length := by omega
      have h1 := HS.out a ha
      have h2 := HS.out b hb
      simp only [gd a ha, gd b hb, decide_eq_true_eq] at h ⊢
      omega))
  clear HH HD HS X0 X1 hb
  go_wp2_with fail
  with_reducible refine SC.out.mono ?_
  rintro e w1 ⟨r, rfl, hf, hb1⟩
  obtain rfl := FP.out r hf
  clear SC FP hf q0 c13
  go_wp2_with fail
  go_ret
  exact ⟨rfl, B0.trans (hb1.mono B0.size)⟩

set_option maxRecDepth 100000 in
set_option maxHeartbeats 12800000 in
theorem slPosition_any {w : World} {l bs : Nat} {V : LsV} {mb : Nat} {O : Option Addr} {oc cnt : Nat} {x : Nrm} {c : Col} {o : Opt} {f : Int → Option Value} {L : Its} (h : Lst w l bs V mb O oc cnt x c o f L) (id : Int) (hid : iok id) :
    Calls Tryz.prog 22 #[.pointer (some ⟨l, 0, none⟩), .int .i64 id] w (RetInt (posL L id) w) := by
  have X0 := h.box
  unfold lsC at X0
  have l0 := X0.lt
  have HM := Lib.hid (show MapI w mb cnt f from h.map.is)
  have HID := Lib.hid hid
  have c12 := X0.cell (i := 12) rfl
  by_cases hin : id ∈ idsL L
  · obtain ⟨p, hp, hpe⟩ := List.mem_map.1 hin
    obtain ⟨T, tk, K, kk, hf, hT, hK⟩ := h.item p hp
    have hok := h.ok p hp
    obtain ⟨id', t⟩ := p
    dsimp only at *
    subst hpe
    have HF := Lib.hid hf
    have hkl := kyN_len x c o t
    have B0 : Below w.heap.size w (w.alloc (.cells #[.slice T t.length tk, .slice K (kyN x c o t).length kk] 97)) := (Below.refl _ _).alloc (Nat.le_refl _) _
    have X1 : Box (w.alloc (.cells #[.slice T t.length tk, .slice K (kyN x c o t).length kk] 97)) w.heap.size 97 [.slice T t.length tk, .slice K (kyN x c o t).length kk] := Box.new w 97 [.slice T t.length tk, .slice K (kyN x c o t).length kk] rfl
    have W0E : ∃ W0, (w.alloc (.cells #[.slice T t.length tk, .slice K (kyN x c o t).length kk] 97)) = W0 := ⟨_, rfl⟩
    have PP := Lib.hid (posL_plc h.srt hp).1
    have PC := Lib.hid (fun W (hb : Below w.heap.size w W) => slPlace_any (h.below hb) K kk (kyN x c o t) id' (hK.1.below hb) (by omega))
    rw [← PP.out] at PC
    have hgen : ∃ ps, posL L id' = ps := ⟨_, rfl⟩
    obtain ⟨ps, hps⟩ := hgen
    rw [hps] at PC ⊢
    generalize kyN x c o t = ky at *
    clear h hT hK X0 hin hp hok hf hkl hid PP hps
    go_enter Tryz.func22, Tryz.ntmps22
    go_upto_region 4 with (at_lookup; refine wpList_lookOk rfl _ _ 78 rfl HM.out law_int Tryz.underlying78 (zero_item _) rfl rfl HID.out (key_int HID.out) ?_; rw [HF.out]; first | rw [Option.getD_some, Option.isSome_some] | rw [Option.getD_none, Option.isSome_none])
    obtain ⟨W0, hW0⟩ := W0E
    try rw [hW0] at B0 X1 ⊢
    clear hW0 c12
    have d1 := X1.cell (i := 1) rfl
    clear X1 l0
    go_wp2_with fail
    with_reducible refine (PC.out W0 B0).mono ?_
    rintro e w1 ⟨rfl, hb1⟩
    have hbf := B0.trans (hb1.mono B0.size)
    clear d1 PC hb1 B0
    go_wp2_with fail
    go_ret
    exact ⟨rfl, hbf⟩
  · have HF := Lib.hid (h.gone id hid hin)
    have PP := Lib.hid (posL_none hin)
    have B0 : Below w.heap.size w (w.alloc (.cells #[.slice none 0 0, .slice none 0 0] 97)) := (Below.refl _ _).alloc (Nat.le_refl _) _
    rw [PP.out]
    clear h X0 hid hin PP
    go_enter Tryz.func22, Tryz.ntmps22
    go_wp2_with (at_lookup; refine wpList_lookOk rfl _ _ 78 rfl HM.out law_int Tryz.underlying78 (zero_item _) rfl rfl HID.out (key_int HID.out) ?_; rw [HF.out]; first | rw [Option.getD_some, Option.isSome_some] | rw [Option.getD_none, Option.isSome_none])
    go_ret
    exact ⟨rfl, B0⟩

/-- a text, and whether it is there -/
def RetGetL (t : Option (List Int)) (w : World) (e : Ending) (w' : World) : Prop := ∃ A k, e = .returned (.tuple #[.slice A (t.getD []).length k, .bool t.isSome]) ∧ Ints w' A (t.getD []) ∧ (∀ q, blk A = some q → w.heap.size ≤ q) ∧ Below w.heap.size w w'

set_option maxRecDepth 100000 in
set_option maxHeartbeats 12800000 in
theorem slGet_any {w : World} {l bs : Nat} {V : LsV} {mb : Nat} {O : Option Addr} {oc cnt : Nat} {x : Nrm} {c : Col} {o : Opt} {f : Int → Option Value} {L : Its} (h : Lst w l bs V mb O oc cnt x c o f L) (id : Int) (hid : iok id) :
    Calls Tryz.prog 17 #[.pointer (some ⟨l, 0, none⟩), .int .i64 id] w (RetGetL (getL L id) w) := by
  have X0 := h.box
  unfold lsC at X0
  have l0 := X0.lt
  have HM := Lib.hid (show MapI w mb cnt f from h.map.is)
  have HID := Lib.hid hid
  have c12 := X0.cell (i := 12) rfl
  by_cases hin : id ∈ idsL L
  · obtain ⟨p, hp, hpe⟩ := List.mem_map.1 hin
    obtain ⟨T, tk, K, kk, hf, hT, hK⟩ := h.item p hp
    have hok := h.ok p hp
    obtain ⟨id', t⟩ := p
    dsimp only at *
    subst hpe
    have HF := Lib.hid hf
    have hkl := kyN_len x c o t
    have B0 : Below w.heap.size w (w.alloc (.cells #[.slice T t.length tk, .slice K (kyN x c o t).length kk] 97)) := (Below.refl _ _).alloc (Nat.le_refl _) _
    have X1 : Box (w.alloc (.cells #[.slice T t.length tk, .slice K (kyN x c o t).length kk] 97)) w.heap.size 97 [.slice T t.length tk, .slice K (kyN x c o t).length kk] := Box.new w 97 [.slice T t.length tk, .slice K (kyN x c o t).length kk] rfl
    have W0E : ∃ W0, (w.alloc (.cells #[.slice T t.length tk, .slice K (kyN x c o t).length kk] 97)) = W0 := ⟨_, rfl⟩
    have PP := Lib.hid (getL_mem h.srt.one hp)
    have PC := Lib.hid (fun W (hb : Below w.heap.size w W) => cloneI_any T t.length tk t W (hT.1.below hb) rfl (by omega))
    rw [PP.out]
    generalize kyN x c o t = ky at *
    unfold RetOwnI at PC
    clear h hT hK X0 hin hp hok hf hkl hid PP
    go_enter Tryz.func17, Tryz.ntmps17
    go_upto_region 4 with (at_lookup; refine wpList_lookOk rfl _ _ 78 rfl HM.out law_int Tryz.underlying78 (zero_item _) rfl rfl HID.out (key_int HID.out) ?_; rw [HF.out]; first | rw [Option.getD_some, Option.isSome_some] | rw [Option.getD_none, Option.isSome_none])
    obtain ⟨W0, hW0⟩ := W0E
    try rw [hW0] at B0 X1 ⊢
    clear hW0 c12
    have d1 := X1.cell (i := 0) rfl
    clear X1 l0
    go_wp2_with fail
    with_reducible refine (PC.out W0 B0).mono ?_
    rintro e w1 ⟨E, d, rfl, hE, hb1⟩
    have hbf := B0.trans (hb1.mono B0.size)
    have hz0 := B0.size
    clear d1 PC hb1 B0
    go_wp2_with fail
    go_ret2
    exact ⟨E, d, rfl, Sl.of_own hE, fun q hq => Nat.le_trans hz0 (own_blk hE hq).1, hbf⟩
  · have HF := Lib.hid (h.gone id hid hin)
    have PP := Lib.hid (getL_none.2 hin)
    have B0 : Below w.heap.size w (w.alloc (.cells #[.slice none 0 0, .slice none 0 0] 97)) := (Below.refl _ _).alloc (Nat.le_refl _) _
    have X1 : Box (w.alloc (.cells #[.slice none 0 0, .slice none 0 0] 97)) w.heap.size 97 [.slice none 0 0, .slice none 0 0] := Box.new w 97 [.slice none 0 0, .slice none 0 0] rfl
    have W0E : ∃ W0, (w.alloc (.cells #[.slice none 0 0, .slice none 0 0] 97)) = W0 := ⟨_, rfl⟩
    have PC := Lib.hid (fun W => cloneI_any none 0 0 [] W (Sl.nil _ _) rfl (by omega))
    rw [PP.out]
    unfold RetOwnI at PC
    clear h X0 hid hin PP
    go_enter Tryz.func17, Tryz.ntmps17
    go_upto_region 4 with (at_lookup; refine wpList_lookOk rfl _ _ 78 rfl HM.out law_int Tryz.underlying78 (zero_item _) rfl rfl HID.out (key_int HID.out) ?_; rw [HF.out]; first | rw [Option.getD_some, Option.isSome_some] | rw [Option.getD_none, Option.isSome_none])
    obtain ⟨W0, hW0⟩ := W0E
    try rw [hW0] at B0 X1 ⊢
    clear hW0 c12
    have d1 := X1.cell (i := 0) rfl
    clear X1 l0
    go_wp2_with fail
    with_reducible refine (PC.out W0).mono ?_
    rintro e w1 ⟨E, d, rfl, hE, hb1⟩
    have hbf := B0.trans (hb1.mono B0.size)
    have hz0 := B0.size
    clear d1 PC hb1 B0
    go_wp2_with fail
    go_ret2
    exact ⟨E, d, rfl, Sl.of_own hE, fun q hq => Nat.le_trans hz0 (own_blk hE hq).1, hbf⟩

set_option maxRecDepth 100000 in
set_option maxHeartbeats 12800000 in
theorem slItems_own {w : World} {l bs : Nat} {V : LsV} {mb : Nat} {O : Option Addr} {oc cnt : Nat} {x : Nrm} {c : Col} {o : Opt} {f : Int → Option Value} {L : Its} (h : Lst w l bs V mb O oc cnt x c o f L)  :
    Calls Tryz.prog 20 #[.pointer (some ⟨l, 0, none⟩)] w (RetOwnI (idsL L) w) := by
  have X0 := h.box
  unfold lsC at X0
  have c13 := X0.cell (i := 13) rfl
  have hil := idsL_len (L := L)
  have hL100 := h.len
  have PC := Lib.hid (cloneI_any O L.length oc (idsL L) w h.ids hil (by omega))
  unfold RetOwnI at PC ⊢
  rw [hil] at PC ⊢
  clear h X0 hil
  go_enter Tryz.func20, Tryz.ntmps20
  go_wp2_with fail
  with_reducible refine PC.out.mono ?_
  rintro e w1 ⟨E, d, rfl, hE, hb1⟩
  clear PC c13
  go_wp2_with fail
  go_ret
  exact ⟨E, d, rfl, hE, hb1⟩
end Go.Proofs.YtpfbnikbebccjaaGreatDoor

