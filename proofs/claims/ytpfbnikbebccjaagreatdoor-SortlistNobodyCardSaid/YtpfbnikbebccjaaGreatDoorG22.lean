/- Texts that are merged into one file: SlLst. -/
import Derived.Test.YtpfbnikbebccjaaGreatDoorG05
import Derived.Test.YtpfbnikbebccjaaGreatDoorG10
import Derived.Test.YtpfbnikbebccjaaGreatDoorG15
import Derived.Test.YtpfbnikbebccjaaGreatDoorG21
/- A list of package sortlist in memory. No program in sight. -/
namespace Go.Proofs.YtpfbnikbebccjaaGreatDoor
open Go.RowKit Go.Maps Go.WideMaps Srl

/-- the key of a text -/
def kyN (x : Nrm) (c : Col) (o : Opt) (t : List Int) : List Int := keyN (optD o) (elsN x c t) (dtx x false t)

/-- a world changed at some old blocks only -/
structure Chg (S : Nat → Prop) (w w' : World) : Prop where
  os : w'.os = w.os
  tape : w'.tape = w.tape
  output : w'.output = w.output
  size : w.heap.size ≤ w'.heap.size
  block : ∀ k, k < w.heap.size → ¬ S k → w'.heap[k]? = w.heap[k]?
theorem Chg.refl (S : Nat → Prop) (w : World) : Chg S w w := ⟨rfl, rfl, rfl, Nat.le_refl _, fun _ _ _ => rfl⟩
theorem Chg.mono {S S' : Nat → Prop} {w w' : World} (h : Chg S w w') (hs : ∀ k, k < w.heap.size → S k → S' k) : Chg S' w w' := ⟨h.os, h.tape, h.output, h.size, fun k hk hn => h.block k hk (fun q => hn (hs k hk q))⟩
theorem Chg.trans {S : Nat → Prop} {a b c : World} (h : Chg S a b) (g : Chg S b c) : Chg S a c :=
  ⟨g.os.trans h.os, g.tape.trans h.tape, g.output.trans h.output, Nat.le_trans h.size g.size, fun k hk hn => (g.block k (Nat.lt_of_lt_of_le hk h.size) hn).trans (h.block k hk hn)⟩
theorem Chg.trans' {S S' : Nat → Prop} {a b c : World} (h : Chg S a b) (g : Chg S' b c) (hs : ∀ k, S' k → S k ∨ a.heap.size ≤ k) : Chg S a c :=
  ⟨g.os.trans h.os, g.tape.trans h.tape, g.output.trans h.output, Nat.le_trans h.size g.size, fun k hk hn => (g.block k (Nat.lt_of_lt_of_le hk h.size) (fun q => by rcases hs k q with e | e; exact hn e; omega)).trans (h.block k hk hn)⟩
theorem Chg.of_below {S : Nat → Prop} {w w' : World} (h : Below w.heap.size w w') : Chg S w w' := ⟨h.os, h.tape, h.output, h.size, fun k hk _ => h.block k hk⟩
theorem Chg.of_grown {S : Nat → Prop} {w w' : World} {r : Option Nat} (h : w.grownBy w' r) (hr : ∀ q, r = some q → S q) : Chg S w w' := ⟨h.os, h.tape, h.output, h.size, fun k hk hn => h.block k hk (fun e => hn (hr k e.symm))⟩
theorem Chg.below {S : Nat → Prop} {w w' : World} {n : Nat} (h : Chg S w w') (hn : n ≤ w.heap.size) (hs : ∀ k, S k → n ≤ k) : Below n w w' := ⟨h.os, h.tape, h.output, h.size, fun k hk => h.block k (Nat.lt_of_lt_of_le hk hn) (fun q => by have := hs k q; omega)⟩
theorem Chg.sl {S : Nat → Prop} {w w' : World} (h : Chg S w w') {A : Option Addr} {cs : List Value} (hA : Sl w A cs) (hn : cs ≠ [] → ∀ q, blk A = some q → ¬ S q) : Sl w' A cs := fun hne => by
  obtain ⟨b, o, rfl, hc⟩ := hA hne
  have hb : b < w.heap.size := sl_lt hA hne rfl
  refine ⟨b, o, rfl, fun j u hu => ?_⟩
  rw [World.cell?_of_block (h.block b hb (hn hne b rfl))]
  exact hc j u hu
theorem Chg.box {S : Nat → Prop} {w w' : World} (h : Chg S w w') {b : Nat} {t : TypeId} {cs : List Value} (hB : Box w b t cs) (hn : ¬ S b) : Box w' b t cs := (h.block b hB.lt hn).trans hB

/-- what is a cell stays one -/
def CK (w w' : World) : Prop := ∀ p v, w.cell? p = some v → w'.cell? p = some v
section
variable {w w' : World}
theorem CK.sl (h : CK w w') {A : Option Addr} {cs : List Value} (hA : Sl w A cs) : Sl w' A cs := fun hne => by
  obtain ⟨b, o, rfl, hc⟩ := hA hne
  exact ⟨b, o, rfl, fun j u hu => h _ _ (hc j u hu)⟩
theorem CK.mps (h : CK w w') {A : Option Addr} {ms : List Mp} (hA : Mps w A ms) : Mps w' A ms := by
  obtain ⟨vs, h1, h2, h3⟩ := hA
  refine ⟨vs, h1, h.sl h2, fun i hi hv => ?_⟩
  obtain ⟨C, c, e1, e2, e3⟩ := h3 i hi hv
  exact ⟨C, c, e1, e2, h.sl e3⟩
theorem CK.nrm (h : CK w w') {A0 : Option Addr} {n0 : Nat} {A1 : Option Addr} {n1 : Nat} {A2 : Option Addr} {n2 : Nat} {x : Nrm} (hN : NrmAt w A0 n0 A1 n1 A2 n2 x) : NrmAt w' A0 n0 A1 n1 A2 n2 x :=
  ⟨h.sl hN.s0, h.mps hN.s1, h.sl hN.s2, hN.l0, hN.l1, hN.l2⟩
theorem CK.ents (h : CK w w') {A : Option Addr} {xs : List Ent} (hA : Ents w A xs) : Ents w' A xs := by
  obtain ⟨vs, h1, h2, h3⟩ := hA
  refine ⟨vs, h1, h.sl h2, fun i hi hv => ?_⟩
  obtain ⟨C, c, E, d, e, e1, e2⟩ := (h3 i hi hv).ex
  exact ⟨C, c, E, d, e, h.sl e1, h.sl e2⟩
theorem CK.col (h : CK w w') {A : Option Addr} {n : Nat} {B : Option Addr} {m : Nat} {c : Col} (hC : ColAt w A n B m c) : ColAt w' A n B m c :=
  ⟨h.ents hC.ents, h.sl hC.grps, hC.hn, hC.hm, hC.hs⟩
theorem CK.laid (h : CK w w') (hL : Laid w) : Laid w' := by
  obtain ⟨h0, h1, h2, h3, h4, h5, h6, h7⟩ := hL
  exact ⟨h _ _ h0, h _ _ h1, h _ _ h2, h _ _ h3, h _ _ h4, h _ _ h5, h _ _ h6, h _ _ h7⟩
theorem Chg.ck {mb : Nat} (h : Chg (fun q => q = mb) w w') (hm : ∀ o, w.cell? ⟨mb, o, none⟩ = none) : CK w w' := fun p v hp => by
  have hs : p.spot = none := World.cell?_spot hp
  have hb := World.block_lt_of_cell? w _ hp
  obtain ⟨b, o, s⟩ := p
  dsimp only at hs hb
  subst hs
  have hne : ¬ b = mb := by
    rintro rfl
    rw [hm o] at hp
    cases hp
  exact (World.cell?_of_block (h.block b hb hne)).trans hp
end
/-- the values that a list holds -/
structure LsV where
  A0 : Option Addr
  k0 : Nat
  A1 : Option Addr
  k1 : Nat
  A2 : Option Addr
  k2 : Nat
  C : Option Addr
  a : Nat
  B : Option Addr
  b : Nat
def lsC (V : LsV) (x : Nrm) (c : Col) (o : Opt) (mb : Nat) (O : Option Addr) (n oc : Nat) : List Value :=
  [.slice V.A0 x.cls.length V.k0, .slice V.A1 x.dec.length V.k1, .slice V.A2 x.exc.length V.k2, .slice V.C c.ents.length V.a, .slice V.B c.grps.length V.b, .int .i64 c.base, .int .i64 c.second, .int .i64 c.third, .int .i64 o.st, .int .i64 o.va, .bool o.bk, .bool o.idn, .map (some mb), .slice O n oc]
/-- the blocks that a list's operations write into -/
def Lf (l mb : Nat) (O : Option Addr) (k : Nat) : Prop := k = l ∨ k = mb ∨ blk O = some k
/-- ints apart from some blocks -/
def ApI (S : Nat → Prop) (w : World) (A : Option Addr) (zs : List Int) : Prop := Ints w A zs ∧ (zs ≠ [] → ∀ q, blk A = some q → ¬ S q)
theorem ApI.chg {S : Nat → Prop} {w w' : World} {A : Option Addr} {zs : List Int} (h : ApI S w A zs) (hc : Chg S w w') : Ints w' A zs := hc.sl h.1 (fun hne => h.2 (by rintro rfl; exact hne rfl))
theorem ApI.to {S S' : Nat → Prop} {w w' : World} {A : Option Addr} {zs : List Int} (h : ApI S w A zs) (hc : Chg S w w') (hs : ∀ k, S' k → S k ∨ w.heap.size ≤ k) : ApI S' w' A zs :=
  ⟨h.chg hc, fun hne q hq hS => by
    rcases hs q hS with g | g
    · exact h.2 hne q hq g
    · have := sl_lt h.1 (ints_ne hne) hq; omega⟩
/-- a list -/
structure Lst (w : World) (l bs : Nat) (V : LsV) (mb : Nat) (O : Option Addr) (oc cnt : Nat) (x : Nrm) (c : Col) (o : Opt) (f : Int → Option Value) (L : Its) : Prop where
  box : Box w l 80 (lsC V x c o mb O L.length oc)
  map : MapC Tryz.prog 3 ikey iok w mb cnt f L.length
  row : w.ownsRow bs 3 1 (.slice O L.length oc) L.length ((idsL L).map (Value.int .i64))
  set : ∃ w0 : World, bs ≤ w0.heap.size ∧ w0.heap.size ≤ l ∧ (∀ o, w0.cell? ⟨mb, o, Option.none⟩ = Option.none) ∧ NrmAt w0 V.A0 x.cls.length V.A1 x.dec.length V.A2 x.exc.length x ∧ ColAt w0 V.C c.ents.length V.B c.grps.length c ∧ Laid w0 ∧ Chg (fun q => q = mb) w0 w ∧ (∀ q, blk O = some q → w0.heap.size ≤ q)
  lol : bs ≤ l
  lom : bs ≤ mb
  nlm : l ≠ mb
  nlo : ¬ blk O = some l
  nmo : ¬ blk O = some mb
  item : ∀ p ∈ L, ∃ T tk K kk, f p.1 = some (.agg #[.slice T p.2.length tk, .slice K (kyN x c o p.2).length kk]) ∧ ApI (Lf l mb O) w T p.2 ∧ ApI (Lf l mb O) w K (kyN x c o p.2)
  gone : ∀ id, iok id → id ∉ idsL L → f id = none
  srt : Srt (kyN x c o) L
  ok : ∀ p ∈ L, iok p.1 ∧ p.2.length ≤ 1000 ∧ ∀ z ∈ p.2, iok z
  nz : NrmSz x
  cz : ColSz c
  len : L.length ≤ 100
section
variable {w w' : World} {l bs : Nat} {V : LsV} {mb : Nat} {O : Option Addr} {oc cnt : Nat} {x : Nrm} {c : Col} {o : Opt} {f : Int → Option Value} {L : Its}
theorem Lst.below (h : Lst w l bs V mb O oc cnt x c o f L) (hb : Below w.heap.size w w') : Lst w' l bs V mb O oc cnt x c o f L := by
  obtain ⟨w0, e0, e1, e2, s1, s2, s3, s4, s5⟩ := h.set
  refine { h with box := h.box.below hb h.box.lt, map := h.map.below hb, row := own_keep h.row hb, set := ⟨w0, e0, e1, e2, s1, s2, s3, s4.trans (Chg.of_below hb), s5⟩, item := fun p hp => ?_ }
  obtain ⟨T, tk, K, kk, e, a1, a2⟩ := h.item p hp
  exact ⟨T, tk, K, kk, e, ⟨a1.1.below hb, a1.2⟩, ⟨a2.1.below hb, a2.2⟩⟩
theorem Lst.bs_le (h : Lst w l bs V mb O oc cnt x c o f L) : bs ≤ w.heap.size := by have := h.lol; have := h.box.lt; omega
theorem Lst.nrm (h : Lst w l bs V mb O oc cnt x c o f L) : NrmAt w V.A0 x.cls.length V.A1 x.dec.length V.A2 x.exc.length x := by obtain ⟨w0, _, _, e2, s1, _, _, s4, _⟩ := h.set; exact (s4.ck e2).nrm s1
theorem Lst.col (h : Lst w l bs V mb O oc cnt x c o f L) : ColAt w V.C c.ents.length V.B c.grps.length c := by obtain ⟨w0, _, _, e2, _, s2, _, s4, _⟩ := h.set; exact (s4.ck e2).col s2
theorem Lst.laid (h : Lst w l bs V mb O oc cnt x c o f L) : Laid w := by obtain ⟨w0, _, _, e2, _, _, s3, s4, _⟩ := h.set; exact (s4.ck e2).laid s3
theorem Lst.lf (h : Lst w l bs V mb O oc cnt x c o f L) : ∀ k, Lf l mb O k → bs ≤ k := by
  rintro k (rfl | rfl | e)
  · exact h.lol
  · exact h.lom
  · exact (own_blk h.row e).1
theorem Lst.ids (h : Lst w l bs V mb O oc cnt x c o f L) : Ints w O (idsL L) := Sl.of_own h.row
theorem Lst.at (h : Lst w l bs V mb O oc cnt x c o f L) {i : Nat} (hi : i < L.length) : ∃ g, O = some ⟨g, 0, none⟩ ∧ bs ≤ g ∧ g < w.heap.size ∧ w.cell? ⟨g, i, none⟩ = some (.int .i64 L[i].1) := by
  obtain ⟨g, rfl, h1, h2⟩ := own_at h.row (by omega)
  refine ⟨g, rfl, h1, h2, ?_⟩
  have := h.row.cellAt i (by omega)
  rw [List.getElem?_map] at this
  rw [this]
  unfold idsL
  rw [List.getElem?_map, List.getElem?_eq_getElem hi]
  rfl
theorem Lst.get (h : Lst w l bs V mb O oc cnt x c o f L) {i : Nat} (hi : i < L.length) : ∃ T tk K kk, f L[i].1 = some (.agg #[.slice T L[i].2.length tk, .slice K (kyN x c o L[i].2).length kk]) ∧ ApI (Lf l mb O) w T L[i].2 ∧ ApI (Lf l mb O) w K (kyN x c o L[i].2) := h.item _ (List.getElem_mem hi)
theorem lf_new {O' : Option Addr} {l mb : Nat} {O : Option Addr} {n : Nat} (hO : blk O' = blk O ∨ ∀ q, blk O' = some q → n ≤ q) : ∀ k, Lf l mb O' k → Lf l mb O k ∨ n ≤ k := by
  rintro k (rfl | rfl | e)
  · exact .inl (.inl rfl)
  · exact .inl (.inr (.inl rfl))
  · rcases hO with g | g
    · exact .inl (.inr (.inr (by rw [← g]; exact e)))
    · exact .inr (g k e)
theorem Lst.step (h : Lst w l bs V mb O oc cnt x c o f L) {O' : Option Addr} {oc' cnt' : Nat} {f' : Int → Option Value} {L' : Its} (hc : Chg (Lf l mb O) w w') (hO : blk O' = blk O ∨ ∀ q, blk O' = some q → w.heap.size ≤ q)
    (hbox : Box w' l 80 (lsC V x c o mb O' L'.length oc')) (hmap : MapC Tryz.prog 3 ikey iok w' mb cnt' f' L'.length) (hrow : w'.ownsRow bs 3 1 (.slice O' L'.length oc') L'.length ((idsL L').map (Value.int .i64)))
    (hitem : ∀ p ∈ L', (p ∈ L ∧ f' p.1 = f p.1) ∨ ∃ T tk K kk, f' p.1 = some (.agg #[.slice T p.2.length tk, .slice K (kyN x c o p.2).length kk]) ∧ ApI (Lf l mb O') w' T p.2 ∧ ApI (Lf l mb O') w' K (kyN x c o p.2))
    (hnone : ∀ id, iok id → id ∉ idsL L' → f' id = none) (hsrt : Srt (kyN x c o) L') (hok : ∀ p ∈ L', iok p.1 ∧ p.2.length ≤ 1000 ∧ ∀ z ∈ p.2, iok z) (hlen : L'.length ≤ 100) :
    Lst w' l bs V mb O' oc' cnt' x c o f' L' := by
  obtain ⟨w0, e0, e1, e2, s1, s2, s3, s4, s5⟩ := h.set
  have hl := h.box.lt
  have hm := h.map.lt
  have hzw := s4.size
  refine { box := hbox, map := hmap, row := hrow, set := ⟨w0, e0, e1, e2, s1, s2, s3, s4.trans' hc (fun k hk => ?_), fun q hq => ?_⟩, lol := h.lol, lom := h.lom, nlm := h.nlm, nlo := ?_, nmo := ?_, item := fun p hp => ?_, gone := hnone, srt := hsrt, ok := hok, nz := h.nz, cz := h.cz, len := hlen }
  · rcases hk with rfl | rfl | g
    · exact .inr e1
    · exact .inl rfl
    · exact .inr (s5 k g)
  · rcases hO with g | g
    · exact s5 q (by rw [← g]; exact hq)
    · have := g q hq; omega
  · intro e
    rcases hO with g | g
    · exact h.nlo (by rw [← g]; exact e)
    · have := g l e; omega
  · intro e
    rcases hO with g | g
    · exact h.nmo (by rw [← g]; exact e)
    · have := g mb e; omega
  · rcases hitem p hp with ⟨hp', ef⟩ | g
    · obtain ⟨T, tk, K, kk, e, a1, a2⟩ := h.item p hp'
      exact ⟨T, tk, K, kk, ef.trans e, a1.to hc (lf_new hO), a2.to hc (lf_new hO)⟩
    · exact g
end
end Go.Proofs.YtpfbnikbebccjaaGreatDoor
