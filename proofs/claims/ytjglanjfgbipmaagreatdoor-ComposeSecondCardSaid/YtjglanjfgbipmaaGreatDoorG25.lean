/- Texts that are merged into one file: CpPairsB, CpPrim, ORefSort. -/
import Derived.Test.YtjglanjfgbipmaaGreatDoorG04
import Derived.Test.YtjglanjfgbipmaaGreatDoorG06
import Derived.Test.YtjglanjfgbipmaaGreatDoorG10
import Derived.Test.YtjglanjfgbipmaaGreatDoorG12
import Derived.Test.YtjglanjfgbipmaaGreatDoorG23
import Derived.Test.YtjglanjfgbipmaaGreatDoorG24
/- Contracts of compose.Pairs and Primary. Written by gen_cppairs.py. -/
namespace Go.Proofs.YtjglanjfgbipmaaGreatDoor
open Go.RowKit Go.Maps Go.WideMaps Go.Shelf

/-- a slice of triples is returned -/
def RetTri (L : List (Int × Int × Int)) (w : World) (e : Ending) (w' : World) : Prop := ∃ A c, e = .returned (.slice A L.length c) ∧ L.length ≤ c ∧ Sl w' A (L.flatMap encT) ∧ Below w.heap.size w w'
theorem info_tri : (Tryz.prog.info? 36).map (fun i => (i.zero, i.size, i.bytes)) = some (some (.agg #[.int .i64 0, .int .i64 0, .int .i64 0]), 3, 24) := by kernel_rfl
theorem pc_pok {x : Nrm} (h : NOk x) {p : Int × Int} {c : Int} (hp : pcN x p = some c) : pok p ∧ iok c := by
  unfold pcN pcL at hp
  split at hp
  · cases hp
  · obtain ⟨t, ht, h1, h2, _⟩ := prM_facts (x := x) (a := p.1) (b := p.2) (c := c) hp
    have hc := h.co t ht
    exact ⟨⟨iok_of (hc.2.2 p.1 (by rw [h2]; simp)), iok_of (hc.2.2 p.2 (by rw [h2]; simp))⟩, iok_code (by rw [← h1]; exact hc.1)⟩
theorem pcV_eq {F : Int × Int → Option Int} {p : Int × Int} {v : Value} (h : pcV F p = some v) : ∃ c, F p = some c ∧ v = .int .i64 c := by
  unfold pcV at h
  cases hf : F p with
  | none => rw [hf] at h; cases h
  | some c => rw [hf] at h; injection h with h; exact ⟨c, rfl, h.symm⟩
/-- what has been collected from a map -/
structure Coll (F : Int × Int → Option Int) (L : Int × Int → Prop) (acc : List (Int × Int × Int)) : Prop where
  mem : ∀ a b c, (a, b, c) ∈ acc ↔ pok (a, b) ∧ F (a, b) = some c ∧ ¬ L (a, b)
  keys : acc.Pairwise (fun x y => (x.1, x.2.1) ≠ (y.1, y.2.1))
theorem Coll.start (F : Int × Int → Option Int) : Coll F (fun p => (pcV F p).isSome = true) [] := by
  refine ⟨fun a b c => ⟨fun h => (by cases h), fun ⟨_, h2, h3⟩ => ?_⟩, List.Pairwise.nil⟩
  exact absurd (by rw [pcV_some, h2]; rfl) h3
theorem Coll.step {F : Int × Int → Option Int} {L : Int × Int → Prop} {acc : List (Int × Int × Int)} (h : Coll F L acc) {p : Int × Int} {c : Int} (hp : pok p) (hL : L p) (hf : F p = some c) : Coll F (fun y => L y ∧ y ≠ p) (acc ++ [(p.1, p.2, c)]) := by
  obtain ⟨p1, p2⟩ := p
  refine ⟨fun a b d => ?_, ?_⟩
  · rw [List.mem_append, h.mem, List.mem_singleton]
    constructor
    · rintro (⟨h1, h2, h3⟩ | e)
      · exact ⟨h1, h2, fun g => h3 g.1⟩
      · injection e with e1 e2
        injection e2 with e2 e3
        subst e1; subst e2; subst e3
        exact ⟨hp, hf, fun g => g.2 rfl⟩
    · rintro ⟨h1, h2, h3⟩
      by_cases e : (a, b) = (p1, p2)
      · injection e with e1 e2
        subst e1; subst e2
        rw [hf] at h2
        injection h2 with h2
        subst h2
        exact .inr rfl
      · exact .inl ⟨h1, h2, fun g => h3 ⟨g, e⟩⟩
  · rw [List.pairwise_append]
    refine ⟨h.keys, by simp, fun x hx y hy => ?_⟩
    rw [List.mem_singleton] at hy
    subst hy
    obtain ⟨x1, x2, x3⟩ := x
    intro e
    have := (h.mem x1 x2 x3).1 hx
    dsimp only at e
    rw [e] at this
    exact this.2.2 hL
/-- sorted, it is the list of pairs -/
theorem Coll.sorted {x : Nrm} (ho : NOk x) {L : Int × Int → Prop} {acc : List (Int × Int × Int)} (h : Coll (pcN x) L acc) (hL : ∀ p, pok p → ¬ L p) : PairsOk x (acc.mergeSort fun x y => !(ltOf cmpT) y x) := by
  have hperm := List.mergeSort_perm acc (fun x y => !(ltOf cmpT) y x)
  have hs := List.pairwise_mergeSort (le := fun x y => !(ltOf cmpT) y x) (fun a b c h1 h2 => by
      rw [Bool.not_eq_true'] at *
      exact swoT.ntrans c b a h2 h1) (fun a b => by
      cases h1 : ltOf cmpT b a with
      | false => rfl
      | true =>
        cases h2 : ltOf cmpT a b with
        | false => rfl
        | true => have := swoT.trans a b a h2 h1; rw [swoT.irrefl] at this; cases this) acc
  have hk : (acc.mergeSort fun x y => !(ltOf cmpT) y x).Pairwise (fun x y => (x.1, x.2.1) ≠ (y.1, y.2.1)) := (hperm.symm.pairwise_iff (fun {a b} (h : (a.1, a.2.1) ≠ (b.1, b.2.1)) => h.symm)).1 h.keys
  refine ⟨(hs.and hk).imp fun {a b} hab => ?_, fun a b c => ?_⟩
  · obtain ⟨h1, h2⟩ := hab
    rw [Bool.not_eq_true', ltT_no] at h1
    unfold befT
    have h3 : ¬ (a.1 = b.1 ∧ a.2.1 = b.2.1) := fun e => h2 (by rw [e.1, e.2])
    omega
  · rw [hperm.mem_iff, h.mem]
    constructor
    · exact fun g => g.2.1
    · intro g
      have := (pc_pok ho g).1
      exact ⟨this, g, hL _ this⟩
theorem flatT_len (L : List (Int × Int × Int)) : (L.flatMap encT).length = L.length * 3 := flat_len (enc := encT) (fun _ => rfl) L
theorem one_encT (x : Int × Int × Int) : ∀ v ∈ encT x, v.oneCell' = true := by
  intro v hv
  simp [encT] at hv
  rcases hv with rfl | rfl | rfl <;> rfl

set_option maxRecDepth 100000 in
set_option maxHeartbeats 3200000 in
theorem cpPairs_any (A0 : Option Addr) (n0 k0 : Nat) (A1 : Option Addr) (n1 k1 : Nat) (A2 : Option Addr) (n2 k2 : Nat) (x : Nrm) (w : World) (hN : NrmAt w A0 n0 A1 n1 A2 n2 x) (hz : NrmSz x) (hL : Laid w) :
    Calls Tryz.prog 15 #[.agg #[.slice A0 n0 k0, .slice A1 n1 k1, .slice A2 n2 k2]] w (fun e w' => ∃ L, PairsOk (usN x) L ∧ RetTri L w e w') := by
  have hB : Below w.heap.size w (w.alloc (.cells #[.slice A0 n0 k0, .slice A1 n1 k1, .slice A2 n2 k2] 28)) := (Below.refl _ _).alloc (Nat.le_refl _) _
  have UC := Lib.hid (cpUsable_any A0 n0 k0 A1 n1 k1 A2 n2 k2 x _ (hN.below hB) hz (hL.below hB))
  have HB := Lib.hid hB
  have CC := Lib.hid (fun B0 c0 B1 c1 B2 c2 W (hN : NrmAt W B0 (usN x).cls.length B1 (usN x).dec.length B2 (usN x).exc.length (usN x)) (hb : Below w.heap.size w W) => composites_any B0 _ c0 B1 _ c1 B2 _ c2 (usN x) W hN hz.us (usN_ok x) (hL.below hb))
  have hzu := hz.us.z1.n
  have HO := Lib.hid (usN_ok x)
  clear hN hz hL hB
  generalize usN x = y at *
  have SO := Lib.hid (fun base A c (d : List (Int × Int × Int)) W (hown : W.ownsRow base 36 3 (.slice A d.length c) d.length (d.flatMap encT)) hsz => show Calls Tryz.prog 34 #[.slice A d.length c, .func (.func 35) #[] #[]] W (fun e' w' => e' = .returned (.tuple #[]) ∧ w'.ownsRow base 36 3 (.slice A d.length c) d.length ((d.mergeSort fun x y => !(ltOf cmpT) y x).flatMap encT) ∧ W.grownBy w' (Value.ownBlock (.slice A d.length c))) from sort_own (k := 3) laySort3 Tryz.isAgg36 Tryz.sizeOf36 (fun _ => rfl) (by decide) one_encT cmpT swoT totT 35 #[] (enters_of Tryz.func35 (by kernel_rfl) rfl) (fun W x y => cmpT_any x y W) base 36 A c d W hown hsz)
  have HSO := Lib.hid (fun L acc (h : Coll (pcN y) L acc) hL => h.sorted HO.out hL)
  generalize hF : pcN y = F at *
  clear hF
  go_enter Tryz.func15, Tryz.ntmps15
  go_wp2_with fail
  with_reducible refine UC.out.mono ?_
  rintro e W1 ⟨B0, c0, B1, c1, B2, c2, rfl, hN1, hb1⟩
  have hb := HB.out.trans (hb1.mono HB.out.size)
  have C2 := Lib.hid (CC.out B0 c0 B1 c1 B2 c2 W1 hN1 hb)
  clear hN1 hb1 CC UC
  go_wp2_with fail
  with_reducible refine C2.out.mono ?_
  rintro e W2 ⟨b, rfl, hM, hbb, hb2⟩
  have hb3 := hb.trans (hb2.mono hb.size)
  have HM := Lib.hid hM
  have hbl := hM.lt
  clear hM hb2 C2
  go_wp2_with (at_range; refine wpList_mrange rfl _ _ rfl HM.out law_pair Tryz.underlying56 rfl ?_; intro w0 cnt0 hrg0 hg0 hs0)
  go_frame
  have hcn := hrg0.cnt_le
  have hb4 : Below w.heap.size w w0 := hb3.grown hg0 hb3.size (fun j hj => by cases hj)
  have HRG0 := Lib.hid hrg0
  clear hrg0 hg0
  go_loopw [3, 5] (fun v _ wr => ∃ (L : Int × Int → Prop) (cnt : Nat) (acc : List (Int × Int × Int)) (B : Option Addr) (c : Nat), v = .slice B acc.length c ∧ MRange Tryz.prog 58 plit pok wr b W2.heap.size y.dec.length (pcV F) L cnt ∧ (∀ p, pok p → L p → (pcV F p).isSome = true) ∧ Coll F L acc ∧ acc.length + cnt ≤ y.dec.length ∧
      wr.ownsRow (W2.heap.size + 1) 36 3 (.slice B acc.length c) acc.length (acc.flatMap encT) ∧ Below w.heap.size w wr ∧ W2.heap.size + 1 ≤ wr.heap.size) (fun _ _ wr => wr.rangeLeft b W2.heap.size)
  case atStart => exact ⟨_, cnt0, [], none, 0, rfl, HRG0.out, fun p _ h => h, Coll.start F, by simpa using hcn, World.ownsRow_nil _ _ _ _, hb4, by omega⟩
  case round =>
    clear hb4 HRG0 hs0
    obtain ⟨L, cnt, acc, B, c, rfl, hrg, hLs, hco, hcl, hown, hbr, hsr⟩ := hrel
    have HOWN := Lib.hid hown; have HCO := Lib.hid hco; have HLS := Lib.hid hLs
    clear hown hco hLs
    go_wp2_with (at_next; refine wpList_mnext (mkK := pval) rfl _ rfl hrg law_pair (fun key l h => pkey_inv h) (fun x y hx hy h => plit_inj hx hy h) HLS.out rfl ?_ ?_)
    · intro hc0 hl0
      have hSL := Lib.hid (HSO.out L acc HCO.out (fun p hp => hl0 p.1 p.2 hp))
      have SS := Lib.hid (SO.out _ B c acc wr HOWN.out (by omega))
      have hml : (acc.mergeSort fun x y => !(ltOf cmpT) y x).length = acc.length := List.length_mergeSort _
      have HML := Lib.hid hml
      clear hml
      obtain ⟨_, _, hv, hcc⟩ := own_form HOWN.out
      injection hv with hA' _ hcc'
      subst hA'
      subst hcc'
      go_wp2_with fail
      with_reducible refine SS.out.mono ?_
      rintro e w5 ⟨rfl, hown5, hg5⟩
      have hb5 : Below w.heap.size w w5 := hbr.grown hg5 hbr.size (fun j hj => by have := (HOWN.out.lt j hj); have := hb3.size; omega)
      have HI := Lib.hid (Sl.of_own hown5)
      clear hown5 hg5 SS
      go_wp2_with fail
      go_ret
      exact ⟨_, hSL.out, B, c, by rw [HML.out]; rfl, by rw [HML.out]; exact hcc, HI.out, hb5⟩
    · intro p1 p2 v w1 cnt1 hp hLp hfp hrg1 hlt1 hg1 hs1 hen
      obtain ⟨cv, hFp, rfl⟩ := pcV_eq hfp
      have HCO1 := Lib.hid (HCO.out.step hp hLp hFp)
      have hLS1 := Lib.hid (fun q (hq : pok q) (h : L q ∧ q ≠ (p1, p2)) => HLS.out q hq h.1)
      have hbo : ∀ j, Value.ownBlock (.slice B acc.length c) = some j → j ≠ W2.heap.size := fun j hj => by have := (HOWN.out.lt j hj).1; omega
      have hown1 := HOWN.out.kept hg1 (by
        cases ho : Value.ownBlock (.slice B acc.length c) with
        | none => exact .inl rfl
        | some j => exact .inr (fun e => hbo j ho (by injection e)))
      have HO1 := Lib.hid hown1
      have hbw1 := below_grown hbr hg1 (by have := hb3.size; omega) hbr.size
      have HR1 := Lib.hid hrg1
      clear hown1 hrg1 HOWN
      dsimp only [pval] at hen ⊢
      have HFL := Lib.hid (show (acc ++ [(p1, p2, cv)]).flatMap encT = acc.flatMap encT ++ [.int .i64 p1, .int .i64 p2, .int .i64 cv] from by rw [List.flatMap_append]; rfl)
      have hsz1 : W2.heap.size + 1 ≤ w1.heap.size := by omega
      have hal : Below w1.heap.size w1 (w1.alloc (.cells #[.int .i64 p1, .int .i64 p2] 58)) := (Below.refl _ _).alloc (Nat.le_refl _) _
      have HOA := Lib.hid (own_keep HO1.out hal)
      have hszA : W2.heap.size + 1 ≤ (w1.alloc (.cells #[.int .i64 p1, .int .i64 p2] 58)).heap.size := by simp; omega
      have hbA := hbw1.trans (hal.mono hbw1.size)
      have HRA := Lib.hid (HR1.out.below hal)
      clear HO1
      go_wp2_with (at_builtin; refine wpList_app _ _ 34 36 (.agg #[.int .i64 0, .int .i64 0, .int .i64 0]) 3 24 rfl rfl Tryz.underlying34 info_tri rfl (by decide) (by decide) rfl (HOA.out.alloc _) rfl (Sl_new (w1.alloc (.cells #[.int .i64 p1, .int .i64 p2] 58)) [.int .i64 p1, .int .i64 p2, .int .i64 cv] 36 (by simp <;> omega)) (by simp) (oneCell_ints [p1, p2, cv]) (by omega) (by simp at hszA ⊢; omega) ?_; intro B1 c1' w5 hown5 hc5 hb5 hg5 hB5)
      have hal2 := (Below.refl (w1.alloc (.cells #[.int .i64 p1, .int .i64 p2] 58)).heap.size (w1.alloc (.cells #[.int .i64 p1, .int .i64 p2] 58))).alloc (Nat.le_refl _) (.cells #[.int .i64 p1, .int .i64 p2, .int .i64 cv] 36)
      have hrg5 : MRange Tryz.prog 58 plit pok w5 b W2.heap.size y.dec.length (pcV F) (fun z => L z ∧ z ≠ (p1, p2)) cnt1 := (HRA.out.below hal2).kept hg5 (by
          intro e
          have := (HOA.out.lt b (by rw [← e])).1
          omega) (by
          intro e
          have := (HOA.out.lt W2.heap.size (by rw [← e])).1
          omega)
      go_roundw
      case rel =>
        refine ⟨_, cnt1, acc ++ [(p1, p2, cv)], B1, c1', ?_, hrg5, hLS1.out, HCO1.out, by rw [List.length_append, List.length_singleton]; omega, ?_, (hbA.trans (hal2.mono hbA.size)).trans (hb5.mono (by have := hb3.size; omega)), by have := hb5.size; have := hal2.size; omega⟩
        · rw [List.length_append]; rfl
        · rw [HFL.out, List.length_append]; exact hown5
      case measure => rw [hrg5.left_eq, hrg.left_eq]; omega
end Go.Proofs.YtjglanjfgbipmaaGreatDoor
/- The contract of compose.Primary. -/
namespace Go.Proofs.YtjglanjfgbipmaaGreatDoor
open Go.RowKit Go.Maps Go.WideMaps Go.Shelf

/-- whether a number is a primary composite is returned -/
def RetPrim (x : Nrm) (c : Int) (w : World) (e : Ending) (w' : World) : Prop := ∃ b : Bool, e = .returned (.bool b) ∧ (b = true ↔ 4 ≤ Hg.kind c ∨ ∃ p, pcN x p = some c) ∧ Below w.heap.size w w'

set_option maxRecDepth 100000 in
set_option maxHeartbeats 3200000 in
theorem cpPrimary_any (A0 : Option Addr) (n0 k0 : Nat) (A1 : Option Addr) (n1 k1 : Nat) (A2 : Option Addr) (n2 k2 : Nat) (x : Nrm) (c : Int) (w : World) (hN : NrmAt w A0 n0 A1 n1 A2 n2 x) (hz : NrmSz x) (hL : Laid w) :
    Calls Tryz.prog 13 #[.agg #[.slice A0 n0 k0, .slice A1 n1 k1, .slice A2 n2 k2], .int .i64 c] w (RetPrim (usN x) c w) := by
  have hB : Below w.heap.size w (w.alloc (.cells #[.slice A0 n0 k0, .slice A1 n1 k1, .slice A2 n2 k2] 28)) := (Below.refl _ _).alloc (Nat.le_refl _) _
  have hX : Box (w.alloc (.cells #[.slice A0 n0 k0, .slice A1 n1 k1, .slice A2 n2 k2] 28)) w.heap.size 28 [.slice A0 n0 k0, .slice A1 n1 k1, .slice A2 n2 k2] := Box.new w _ [.slice A0 n0 k0, .slice A1 n1 k1, .slice A2 n2 k2] rfl
  have UC := Lib.hid (cpUsable_any A0 n0 k0 A1 n1 k1 A2 n2 k2 x _ (hN.below hB) hz (hL.below hB))
  have HB := Lib.hid hB
  have HX := Lib.hid hX
  have CC := Lib.hid (fun B0 c0 B1 c1 B2 c2 W (hN : NrmAt W B0 (usN x).cls.length B1 (usN x).dec.length B2 (usN x).exc.length (usN x)) (hb : Below w.heap.size w W) => composites_any B0 _ c0 B1 _ c1 B2 _ c2 (usN x) W hN hz.us (usN_ok x) (hL.below hb))
  have HPK := Lib.hid (fun p v (h : pcN (usN x) p = some v) => (pc_pok (usN_ok x) h).1)
  have KC := Lib.hid (Kind_any c (w.alloc (.cells #[.slice A0 n0 k0, .slice A1 n1 k1, .slice A2 n2 k2] 28)))
  unfold RetPrim
  clear hN hz hL hB hX
  generalize usN x = y at *
  generalize hF : pcN y = F at *
  clear hF
  generalize Hg.kind c = kc at *
  go_enter Tryz.func13, Tryz.ntmps13
  go_wp2_with fail
  with_reducible refine KC.out.mono ?_
  rintro e W0 ⟨rfl, rfl⟩
  by_cases h4 : 4 ≤ kc
  · have HR := Lib.hid (Or.inl h4 : 4 ≤ kc ∨ ∃ p, F p = some c)
    go_wp2_with fail
    go_ret
    exact ⟨true, rfl, ⟨fun _ => HR.out, fun _ => rfl⟩, HB.out⟩
  · have H4 := Lib.hid h4
    have g0 := HX.out.cell (i := 0) rfl
    have g1 := HX.out.cell (i := 1) rfl
    have g2 := HX.out.cell (i := 2) rfl
    go_wp2_with fail
    with_reducible refine UC.out.mono ?_
    rintro e W1 ⟨B0, c0, B1, c1, B2, c2, rfl, hN1, hb1⟩
    have hb := HB.out.trans (hb1.mono HB.out.size)
    have C2 := Lib.hid (CC.out B0 c0 B1 c1 B2 c2 W1 hN1 hb)
    clear hN1 hb1 CC UC g0 g1 g2 h4
    go_wp2_with fail
    with_reducible refine C2.out.mono ?_
    rintro e W2 ⟨b, rfl, hM, hbb, hb2⟩
    have hb3 := hb.trans (hb2.mono hb.size)
    have HM := Lib.hid hM
    have hbl := hM.lt
    clear hM hb2 C2
    go_wp2_with (at_range; refine wpList_mrange rfl _ _ rfl HM.out law_pair Tryz.underlying56 rfl ?_; intro w0 cnt0 hrg0 hg0 hs0)
    go_frame
    have hb4 : Below w.heap.size w w0 := hb3.grown hg0 hb3.size (fun j hj => by cases hj)
    have HRG0 := Lib.hid hrg0
    clear hrg0 hg0
    go_loopw [6] (fun _ wr => ∃ (L : Int × Int → Prop) (cnt : Nat), MRange Tryz.prog 58 plit pok wr b W2.heap.size y.dec.length (pcV F) L cnt ∧ (∀ p, pok p → L p → (pcV F p).isSome = true) ∧ (∀ p, pok p → ¬ L p → F p ≠ some c) ∧ Below w.heap.size w wr) (fun _ wr => wr.rangeLeft b W2.heap.size)
    case atStart => exact ⟨_, cnt0, HRG0.out, fun p _ h => h, fun p _ h e => h (by rw [pcV_some, e]; rfl), hb4⟩
    case round =>
      clear hb4 HRG0 hs0
      obtain ⟨L, cnt, hrg, hLs, hno, hbr⟩ := hrel
      have HNO := Lib.hid hno; have HLS := Lib.hid hLs
      clear hno hLs
      go_wp2_with (at_next; refine wpList_mnext (mkK := pval) rfl _ rfl hrg law_pair (fun key l h => pkey_inv h) (fun x y hx hy h => plit_inj hx hy h) HLS.out rfl ?_ ?_)
      · intro hc0 hl0
        have HF := Lib.hid (show ¬ (4 ≤ kc ∨ ∃ p, F p = some c) from by
          rintro (h | ⟨p, hp⟩)
          · have := H4.out; omega
          · exact HNO.out p (HPK.out p c hp) (hl0 p.1 p.2 (HPK.out p c hp)) hp)
        go_wp2_with fail
        go_ret
        exact ⟨false, rfl, ⟨fun h => (by cases h), fun h => absurd h HF.out⟩, hbr⟩
      · intro p1 p2 v w1 cnt1 hp hLp hfp hrg1 hlt1 hg1 hs1 hen
        obtain ⟨cv, hFp, rfl⟩ := pcV_eq hfp
        have hLS1 := Lib.hid (fun q (hq : pok q) (h : L q ∧ q ≠ (p1, p2)) => HLS.out q hq h.1)
        have hbw1 := below_grown hbr hg1 (by have := hb3.size; omega) hbr.size
        have HR1 := Lib.hid hrg1
        have HFP := Lib.hid hFp
        clear hrg1 hFp hfp
        dsimp only [pval] at hen ⊢
        by_cases he : cv = c
        · have HF := Lib.hid (Or.inr ⟨(p1, p2), by rw [HFP.out, he]⟩ : 4 ≤ kc ∨ ∃ p, F p = some c)
          subst he
          go_wp2_with fail
          go_ret
          exact ⟨true, rfl, ⟨fun _ => HF.out, fun _ => rfl⟩, hbw1⟩
        · have HN2 := Lib.hid (show ∀ q, pok q → ¬ (L q ∧ q ≠ (p1, p2)) → F q ≠ some c from fun q hq h e => by
            by_cases e2 : q = (p1, p2)
            · subst e2; rw [HFP.out] at e; injection e with e; exact he e
            · exact HNO.out q hq (fun g => h ⟨g, e2⟩) e)
          go_wp2_with fail
          go_roundw
          case rel => exact ⟨_, cnt1, HR1.out, hLS1.out, HN2.out, hbw1⟩
          case measure => rw [HR1.out.left_eq, hrg.left_eq]; omega
end Go.Proofs.YtjglanjfgbipmaaGreatDoor
/- The contract of the reference's Sort: the text in order. -/
namespace Go.Proofs.YtjglanjfgbipmaaGreatDoor
open Go.RowKit

theorem set_two (p q : List Int) (x y : Int) : ((p ++ y :: x :: q).set (p.length + 1) y).set p.length x = p ++ x :: y :: q := by
  rw [List.set_append_right _ _ (by omega), List.set_append_right _ _ (by omega)]
  simp

/-- an owned row of ints: its block, cells and stores -/
theorem own_ints {w : World} {base n c : Nat} {e : TypeId} {A : Option Addr} {d : List Int} (h : w.ownsRow base e 1 (.slice A n c) n (d.map (Value.int .i64))) (hn : 0 < n) :
    ∃ g, A = some ⟨g, 0, none⟩ ∧ base ≤ g ∧ d.length = n ∧ (∀ i x, d[i]? = some x → w.cell? ⟨g, i, none⟩ = some (.int .i64 x)) ∧ (∀ i, w.frozen? ⟨g, i, none⟩ = false) := by
  have hl : d.length = n := by have := h.1; simpa using this
  rcases h.2 with ⟨hv, rfl⟩ | ⟨g, cap, cur, hv, hb, _⟩
  · omega
  · injection hv with hA _ hc
    subst hA; subst hc
    refine ⟨g, rfl, hb, hl, fun i x hx => ?_, fun i => h.frozenAt i⟩
    have hi : i < d.length := (List.getElem?_eq_some_iff.1 hx).1
    rw [h.cellAt i (by omega), List.getElem?_map, hx]
    rfl


set_option maxRecDepth 100000 in
set_option maxHeartbeats 4000000 in
theorem refSort_any (A' : Option Addr) (ns ks : Nat) (ss : List Spn) (A : Option Addr) (nt kt : Nat) (text : List Int) (w : World) (hS : Spans w A' ss) (hT : Ints w A text)
    (hnt : text.length = nt) (hns : ss.length = ns) (hb1 : nt ≤ 1048576) (hb2 : ns ≤ 1099511627776) :
    Calls Tryz.prog 44 #[.slice A' ns ks, .slice A nt kt] w (RetHg (Can.srt (clz ss) text) w) := by
  have CC := Lib.hid (fun W hb c => refClass_any A' ns ks ss c W (Spans.below (w := w) (w' := W) hS hb) hns hb2)
  have HCL := Lib.hid (fun x => (clz_range ss x).1)
  have HT := Lib.hid hT
  clear hS hT hns
  subst hnt
  generalize clz ss = cl at *
  go_enter Tryz.func44, Tryz.ntmps44
  go_wp2
  go_loopw [5, 6] (fun v u wr => ∃ (k c : Nat) (B : Option Addr), k ≤ text.length ∧ u = .int .i64 k ∧ v = .slice B k c ∧ wr.ownsRow w.heap.size 3 1 (.slice B k c) k ((Can.srt cl (text.take k)).map (Value.int .i64)) ∧ Below w.heap.size w wr)
    (fun _ u _ => text.length - (intOf u).toNat)
  case atStart => exact ⟨0, 0, none, Nat.zero_le _, rfl, rfl, World.ownsRow_nil _ _ _ _, Below.refl _ _⟩
  case round =>
    obtain ⟨k, c, B, hk, rfl, rfl, hown, hbel⟩ := hrel
    by_cases hlt : k < text.length
    · obtain ⟨b, o, rfl, hcell⟩ := HT.out.at hlt
      have c0 := hcell k hlt
      have hbw : b < w.heap.size := World.block_lt_of_cell? w _ c0
      have c1 : wr.cell? ⟨b, o + k, none⟩ = some (.int .i64 text[k]) := (hbel.cell (p := ⟨b, o + k, none⟩) hbw).trans c0
      clear hcell
      have HX := Lib.hid (List.take_succ_eq_append_getElem hlt)
      have hlen : (Can.srt cl (text.take k)).length = k := by rw [Can.srt_len, List.length_take]; omega
      generalize text[k] = x at *
      have HC0 := Lib.hid c0; have HLEN := Lib.hid hlen; clear c0 hlen
      go_wp2_with (at_builtin; refine wpList_app _ _ 38 3 (.int .i64 0) 1 8 rfl rfl Tryz.underlying38 info_int rfl (by decide) (by decide) rfl (hown.alloc _) rfl (Sl_new wr [.int .i64 x] 3 rfl) (by simp) (oneCell_ints [x]) (by omega) (by have := hbel.size; simp; omega) ?_; intro B1 c1' w1 hown1 hc1 hb1 _ _; have c2 : w1.cell? ⟨b, o + k, none⟩ = some (.int .i64 x) := (((hbel.alloc hbel.size _).trans hb1).cell (p := ⟨b, o + k, none⟩) hbw).trans HC0.out)
      have hB1 : Below w.heap.size w w1 := (hbel.alloc hbel.size _).trans hb1
      have hown2 : w1.ownsRow w.heap.size 3 1 (.slice B1 (k + 1) c1') (k + 1) ((Can.srt cl (text.take k) ++ x :: []).map (Value.int .i64)) := by
        rw [List.map_append]; exact hown1
      obtain ⟨g, rfl, hg, _, _, _⟩ := own_ints hown2 (by omega)
      have HOWN := Lib.hid hown2
      have hbg : ¬ b = g := by omega
      clear hown hown1 hown2 hb1 c1 hbel c2
      refine (CC.out _ hB1 x).mono ?_
      rintro e w2 ⟨rfl, hb2'⟩
      have hB2 := hB1.trans (hb2'.mono hB1.size)
      have HOWN2 := Lib.hid (own_keep HOWN.out hb2')
      clear HOWN hb2' hB1
      have HZ := Lib.hid (rfl : cl x = cl x)
      have hz0 := HCL.out x
      generalize hzz : cl x = z at *
      have HZZ := Lib.hid hzz; clear hzz HZ
      go_wp2_with fail
      obtain ⟨wo, rfl⟩ : ∃ wo : World, wo = w2 := ⟨_, rfl⟩
      go_loopw [8] (fun u wr => ∃ (p q : List Int), u = .int .i64 (p.length : Int) ∧ Can.srt cl (text.take k) = p ++ q ∧ (q = [] ∨ 0 < z) ∧ (∀ y ∈ q, z < cl y) ∧ wr.ownsRow w.heap.size 3 1 (.slice (some ⟨g, 0, none⟩) (k + 1) c1') (k + 1) ((p ++ x :: q).map (Value.int .i64)) ∧ Below w.heap.size w wr) (fun u _ => (intOf u).toNat)
      case atStart => exact ⟨Can.srt cl (text.take k), [], by rw [HLEN.out], by simp, .inl rfl, (fun y hy => by cases hy), HOWN2.out, hB2⟩
      case round =>
        obtain ⟨p, q, rfl, hpq, hq, hq2, hown3, hB3⟩ := hrel
        have HPQ := Lib.hid hpq; have HQ := Lib.hid hq; have HQ2 := Lib.hid hq2; have HOWN3 := Lib.hid hown3
        clear hpq hq hq2 hown3 HOWN2 hB2
        have FIN := Lib.hid (fun (hp : z = 0 ∨ ∀ u, p.getLast? = some u → cl u ≤ z) (W : World) (hW : W.ownsRow w.heap.size 3 1 (.slice (some ⟨g, 0, none⟩) (k + 1) c1') (k + 1) ((p ++ x :: q).map (Value.int .i64))) =>
          show W.ownsRow w.heap.size 3 1 (.slice (some ⟨g, 0, none⟩) (k + 1) c1') (k + 1) ((Can.srt cl (text.take (k + 1))).map (Value.int .i64)) by
            rw [HX.out, ← Can.srt_snoc HCL.out HPQ.out (by rw [HZZ.out]; exact HQ.out) (by rw [HZZ.out]; exact HQ2.out) (by rw [HZZ.out]; exact hp)]; exact hW)
        rcases List.eq_nil_or_concat p with hp | ⟨p', y, hp⟩
        · subst hp
          have h0 : decide ((0 : Int) < ((([] : List Int).length : Nat) : Int)) = false := by simp
          go_wp2
          go_roundw
          case rel => exact ⟨k + 1, c1', some ⟨g, 0, none⟩, by omega, by go_num, rfl, FIN.out (.inr (fun u hu => by cases hu)) _ HOWN3.out, hB3⟩
          case measure => simp [intOf]; omega
        · subst hp
          have hpl : ((p'.concat y).length : Int) = (p'.length : Int) + 1 := by simp
          rw [hpl]
          clear hpl
          obtain ⟨_, hA9, _, hdl, hcells, hfr⟩ := own_ints HOWN3.out (by omega)
          injection hA9 with hA9; injection hA9 with hA9; subst hA9
          have hml : p'.length + 1 < k + 1 := by rw [← hdl]; simp
          have cy := hcells p'.length y (by simp)
          have cx := hcells (p'.length + 1) x (by simp)
          have fy := hfr p'.length
          have fx := hfr (p'.length + 1)
          have HSET := Lib.hid (set_two p' q x y)
          have HGL := Lib.hid (show (p'.concat y).getLast? = some y by simp)
          generalize hm : p'.length = m at *
          have HM := Lib.hid hm
          clear hcells hfr hdl hm
          by_cases hz : 0 < z
          · go_wp2_with fail
            refine (CC.out _ hB3 y).mono ?_
            rintro e w3 ⟨rfl, hb3⟩
            have hB4 := hB3.trans (hb3.mono hB3.size)
            have HOWN4 := Lib.hid (own_keep HOWN3.out hb3)
            obtain ⟨_, hA9, _, hdl, hcells, hfr⟩ := own_ints HOWN4.out (by omega)
            injection hA9 with hA9; injection hA9 with hA9; subst hA9
            have cy' := hcells m y (by simp [← HM.out])
            have cx' := hcells (m + 1) x (by simp [← HM.out])
            have fy' := hfr m
            have fx' := hfr (m + 1)
            have ct : w3.cell? ⟨b, o + k, none⟩ = some (.int .i64 x) := (hB4.cell (p := ⟨b, o + k, none⟩) hbw).trans HC0.out
            clear hcells hfr hdl cy cx fy fx hb3 hB3 HOWN3
            by_cases hc : z < cl y
            · have HC := Lib.hid hc
              have hd : decide (z < cl y) = true := by simpa using hc
              clear hc
              have HYZ := Lib.hid (rfl : cl y = cl y)
              generalize hcy : cl y = zy at *
              have HCY := Lib.hid hcy
              clear hcy HYZ
              have st1 := HOWN4.out.stored (m + 1) (.int .i64 y)
              have st2 := st1.1.stored m (.int .i64 x)
              have HST := Lib.hid (And.intro st1 st2)
              clear st1 st2
              have hne : ¬ m = m + 1 := by omega
              go_wp2
              go_roundw
              case rel =>
                refine ⟨p', y :: q, by rw [HM.out], by rw [HPQ.out]; simp, .inr hz, fun u hu => ?_, ?_, ?_⟩
                · rcases List.mem_cons.1 hu with rfl | hu
                  · rw [HCY.out]; exact HC.out
                  · exact HQ2.out u hu
                · have h := HST.out.2.1
                  have e1 : (((p'.concat y ++ x :: q).map (Value.int .i64)).set (m + 1) (.int .i64 y)).set m (.int .i64 x) = (p' ++ x :: y :: q).map (Value.int .i64) := by
                    rw [← List.map_set, ← List.map_set, ← HSET.out]; simp
                  rw [e1] at h
                  exact h
                · exact below_grown (below_grown hB4 HST.out.1.2 hg hB4.size) HST.out.2.2 hg (by have := hB4.size; simpa using this)
              case measure => simp [intOf]
            · have HC := Lib.hid hc
              have hd : decide (z < cl y) = false := by simpa using hc
              clear hc
              have HYZ := Lib.hid (rfl : cl y = cl y)
              generalize hcy : cl y = zy at *
              have HCY := Lib.hid hcy
              clear hcy HYZ
              go_wp2
              go_roundw
              case rel => exact ⟨k + 1, c1', some ⟨g, 0, none⟩, by omega, by go_num, rfl, FIN.out (.inr (fun u hu => by rw [HGL.out] at hu; injection hu with hu; subst hu; rw [HCY.out]; have := HC.out; omega)) _ HOWN4.out, hB4⟩
              case measure => simp [intOf]; omega
          · go_wp2
            go_roundw
            case rel => exact ⟨k + 1, c1', some ⟨g, 0, none⟩, by omega, by go_num, rfl, FIN.out (.inl (by omega)) _ HOWN3.out, hB3⟩
            case measure => simp [intOf]; omega
    · go_wp2
      go_ret
      have e1 : text.take k = text := List.take_of_length_le (by omega)
      have e2 : k = text.length := by omega
      rw [e1] at hown
      subst e2
      refine ⟨B, c, congrArg (fun n => Ending.returned (.slice B n c)) (Can.srt_len text).symm, ?_, Sl.of_own hown, hbel⟩
      obtain ⟨_, _, hv, hc⟩ := own_form hown
      injection hv with _ _ h
      rw [Can.srt_len]; omega

end Go.Proofs.YtjglanjfgbipmaaGreatDoor
