/- Texts that are merged into one file: RefSmallN, RefSmallW, OpenR, Open, OpenMap, OpenNorm, RpPlain, HeldApp. -/
import Derived.Test.YtjglanjfgbipmaaGreatDoorG01
import Derived.Test.YtjglanjfgbipmaaGreatDoorG02
import Derived.Test.YtjglanjfgbipmaaGreatDoorG03
import Derived.Test.YtjglanjfgbipmaaGreatDoorG04
import Derived.Test.YtjglanjfgbipmaaGreatDoorG13
import Derived.Test.YtjglanjfgbipmaaGreatDoorG18
import Derived.Test.YtjglanjfgbipmaaGreatDoorG24
import Derived.Deep.Slices
import Derived.ProofKit
import Derived.OpenShut
import Derived.ShutString
import Derived.ChangeOld
import Derived.Test.YtjglanjfgbipmaaGreatDoorRows
import Derived.Deep.DeepHandedRow
import Derived.Lib.LaidTab
/- The contract of the reference's Small of composing. -/
namespace Go.Proofs.YtjglanjfgbipmaaGreatDoor
open Go.RowKit Go.Maps Go.WideMaps

def smMp (m : Mp) : Bool := decide (m.to.length ≤ 70) && decide (m.tag.size ≤ 40)
def smallN (x : Nrm) : Bool := decide (x.cls.length ≤ 40) && decide (x.dec.length ≤ 40) && decide (x.exc.length ≤ 12) && x.dec.all smMp
theorem smallN_sz {x : Nrm} (h : smallN x = true) : NrmSz x := by
  unfold smallN at h
  simp only [Bool.and_eq_true, decide_eq_true_eq, List.all_eq_true] at h
  obtain ⟨⟨⟨h1, h2⟩, h3⟩, h4⟩ := h
  refine ⟨by omega, ⟨by omega, fun i hi => ?_⟩, h3⟩
  have := h4 _ (List.getElem_mem hi)
  unfold smMp at this
  simp at this
  omega
theorem smallN_c {x : Nrm} (h : 40 < x.cls.length) : smallN x = false := by
  cases e : smallN x with
  | false => rfl
  | true => unfold smallN at e; simp at e; omega
theorem smallN_d {x : Nrm} (h : 40 < x.dec.length) : smallN x = false := by
  cases e : smallN x with
  | false => rfl
  | true => unfold smallN at e; simp at e; omega
theorem smallN_e {x : Nrm} (h : 12 < x.exc.length) : smallN x = false := by
  cases e : smallN x with
  | false => rfl
  | true => have := (smallN_sz e).z2; omega
theorem smallN_m {x : Nrm} {i : Nat} (hi : i < x.dec.length) (h : smMp x.dec[i] = false) : smallN x = false := by
  cases e : smallN x with
  | false => rfl
  | true =>
    unfold smallN at e
    rw [Bool.and_eq_true, List.all_eq_true] at e
    rw [e.2 _ (List.getElem_mem hi)] at h
    cases h
theorem smallN_yes {x : Nrm} (h1 : ¬ 40 < x.cls.length) (h2 : ¬ 40 < x.dec.length) (h3 : ¬ 12 < x.exc.length) (h4 : ∀ t, (ht : t < x.dec.length) → smMp x.dec[t] = true) : smallN x = true := by
  unfold smallN
  rw [Bool.and_eq_true, Bool.and_eq_true, Bool.and_eq_true, List.all_eq_true]
  refine ⟨⟨⟨by simp; omega, by simp; omega⟩, by simp; omega⟩, fun m hm => ?_⟩
  obtain ⟨i, hi, rfl⟩ := List.getElem_of_mem hm
  exact h4 i hi
end Go.Proofs.YtjglanjfgbipmaaGreatDoor
/- The contract of the reference's Small of composing. -/
namespace Go.Proofs.YtjglanjfgbipmaaGreatDoor
open Go.RowKit Go.Maps Go.WideMaps

set_option maxRecDepth 100000 in
set_option maxHeartbeats 3200000 in
theorem smallN_any (A0 : Option Addr) (n0 k0 : Nat) (A1 : Option Addr) (n1 k1 : Nat) (A2 : Option Addr) (n2 k2 : Nat) (x : Nrm) (w : World) (hN : NrmAt w A0 n0 A1 n1 A2 n2 x) (z0 : n0 ≤ 9223372036854775807) (z1 : n1 ≤ 9223372036854775807) (z2 : n2 ≤ 9223372036854775807) (ze : ∀ i, (hi : i < x.dec.length) → x.dec[i].to.length ≤ 9223372036854775807 ∧ x.dec[i].tag.size ≤ 9223372036854775807) :
    Calls Tryz.prog 9 #[.agg #[.slice A0 n0 k0, .slice A1 n1 k1, .slice A2 n2 k2]] w (RetBool (smallN x) w) := by
  obtain ⟨hS, hM, hR, rfl, rfl, rfl⟩ := hN
  have SC := Lib.hid (fun h => smallN_c (x := x) h)
  have SD := Lib.hid (fun h => smallN_d (x := x) h)
  have SE := Lib.hid (fun h => smallN_e (x := x) h)
  have SM := Lib.hid (fun i (hi : i < x.dec.length) h => smallN_m (x := x) hi h)
  have SY := Lib.hid (fun h1 h2 h3 h4 => smallN_yes (x := x) h1 h2 h3 h4)
  have HM := Lib.hid hM
  have ZE := Lib.hid ze
  clear hS hM hR ze
  generalize smallN x = sb at *
  have B0 : Below w.heap.size w (w.alloc (.cells #[.slice A0 x.cls.length k0, .slice A1 x.dec.length k1, .slice A2 x.exc.length k2] 28)) := (Below.refl _ _).alloc (Nat.le_refl _) _
  have X0 : Box (w.alloc (.cells #[.slice A0 x.cls.length k0, .slice A1 x.dec.length k1, .slice A2 x.exc.length k2] 28)) w.heap.size 28 [.slice A0 x.cls.length k0, .slice A1 x.dec.length k1, .slice A2 x.exc.length k2] := Box.new _ _ _ rfl
  have W0E : ∃ W0, (w.alloc (.cells #[.slice A0 x.cls.length k0, .slice A1 x.dec.length k1, .slice A2 x.exc.length k2] 28)) = W0 := ⟨_, rfl⟩
  go_enter Tryz.func9, Tryz.ntmps9
  by_cases h0 : 40 < x.cls.length
  · obtain rfl := SC.out h0
    have d0 : decide ((40 : Int) < (x.cls.length : Int)) = true := by simp; omega
    clear h0
    go_wp2_with fail
    go_ret
    exact ⟨rfl, B0⟩
  · have d0 : decide ((40 : Int) < (x.cls.length : Int)) = false := by simp; omega
    by_cases h1 : 40 < x.dec.length
    · obtain rfl := SD.out h1
      have d1 : decide ((40 : Int) < (x.dec.length : Int)) = true := by simp; omega
      clear h0 h1
      go_wp2_with fail
      go_ret
      exact ⟨rfl, B0⟩
    · have d1 : decide ((40 : Int) < (x.dec.length : Int)) = false := by simp; omega
      by_cases h2 : 12 < x.exc.length
      · obtain rfl := SE.out h2
        have d2 : decide ((12 : Int) < (x.exc.length : Int)) = true := by simp; omega
        clear h0 h1 h2
        go_wp2_with fail
        go_ret
        exact ⟨rfl, B0⟩
      · have d2 : decide ((12 : Int) < (x.exc.length : Int)) = false := by simp; omega
        have HY := Lib.hid (fun h4 => SY.out h0 h1 h2 h4)
        have hd : x.dec.length ≤ 40 := by omega
        clear h0 h1 h2
        go_wp2_with fail
        obtain ⟨W0, hW0⟩ := W0E
        try rw [hW0] at B0 X0 ⊢
        clear hW0
        have q1 := X0.cell (i := 1) rfl
        go_loop [3] (fun u => ∃ i : Nat, i ≤ x.dec.length ∧ u = .int .i64 i ∧ (∀ t, (ht : t < x.dec.length) → t < i → smMp x.dec[t] = true)) (fun u => x.dec.length - (intOf u).toNat)
        case atStart => exact ⟨0, Nat.zero_le _, rfl, fun t _ h => absurd h (Nat.not_lt_zero _)⟩
        case round =>
          obtain ⟨i, hi, rfl, hno⟩ := hrel
          have HNO := Lib.hid hno
          clear hno
          by_cases hlt : i < x.dec.length
          · obtain ⟨b1, o1, rfl, hbl, hcell⟩ := (HM.out.below B0).at hlt
            obtain ⟨C, cc, e0, e1, e2, _, _⟩ := hcell i hlt
            have HB := Lib.hid (fun h => SM.out i hlt h)
            have HN := Lib.hid (fun h => all_up (P := fun m => smMp m = true) hlt HNO.out h)
            obtain ⟨ze1, ze2⟩ := ZE.out i hlt
            clear hcell
            generalize x.dec[i] = mi at *
            have K1 := Lib.hid (fun (h : 70 < mi.to.length) => show smMp mi = false from by unfold smMp; simp; omega)
            have K2 := Lib.hid (fun (h : 40 < mi.tag.size) => show smMp mi = false from by unfold smMp; simp; omega)
            have K3 := Lib.hid (fun (h1 : ¬ 70 < mi.to.length) (h2 : ¬ 40 < mi.tag.size) => show smMp mi = true from by unfold smMp; simp; omega)
            generalize smMp mi = kb at *
            obtain ⟨mf, mt, mg⟩ := mi
            dsimp only at *
            by_cases h7 : 70 < mt.length
            · have HR := Lib.hid (HB.out (K1.out h7))
              have d3 : decide ((70 : Int) < (mt.length : Int)) = true := by simp; omega
              clear h7
              go_wp2_with fail
              go_ret
              exact ⟨ret_bool HR.out.symm, B0⟩
            · have d3 : decide ((70 : Int) < (mt.length : Int)) = false := by simp; omega
              by_cases h8 : 40 < mg.size
              · have HR := Lib.hid (HB.out (K2.out h8))
                have d4 : decide ((40 : Int) < (mg.size : Int)) = true := by simp; omega
                clear h7 h8
                go_wp2_with fail
                go_ret
                exact ⟨ret_bool HR.out.symm, B0⟩
              · have HQ := Lib.hid (HN.out (K3.out h7 h8))
                have d4 : decide ((40 : Int) < (mg.size : Int)) = false := by simp; omega
                clear h7 h8
                go_wp2_with fail
                go_round
                case rel => exact ⟨i + 1, by omega, by go_num, HQ.out⟩
                case measure => simp [intOf]; omega
          · have HR := Lib.hid (HY.out (fun t ht => HNO.out t ht (by omega)))
            go_wp2_with fail
            go_ret
            exact ⟨ret_bool HR.out.symm, B0⟩
end Go.Proofs.YtjglanjfgbipmaaGreatDoor
/- How an argument that is a slice of records is opened: its list, where it lies, its bounds. Whatever the records are. -/
namespace Go.Proofs.YtjglanjfgbipmaaGreatDoor
open Go.ChangeShapes Go.WideShapes Go.ChangeAt Go.RowKit

theorem open_recs {H : Type} {enc : TypeId × Value → H} {P : Program} {w : World} {base : Nat} {spare : Nat → Bool} {held : Bool} {t e : TypeId} {α : Type} [Inhabited α] (en : α → List Value) (k : Nat) (k0 : 0 < k) (hk : ∀ x, (en x).length = k) (R : α → Prop)
    (ht : P.underlying t = some (.slice e)) (hc : P.cellsOf e = k)
    (hread : ∀ fuel cs x, cs.length = k → DataW.trod enc P w base spare held fuel e cs = some x → ∃ a : α, cs = en a ∧ R a)
    {fuel : Nat} {cs : List Value} {x : DataW H × List MemPlace} (h : DataW.trod enc P w base spare held fuel t cs = some x) :
    ∃ A len cap, ∃ l : List α, cs = [.slice A len cap] ∧ l.length = len ∧ len ≤ cap ∧ cap ≤ 9223372036854775807 ∧ Recs en w A l ∧ ∀ a ∈ l, R a := by
  rcases Deep.open_slice ht h with ⟨hcs, _⟩ | ⟨a, l, c, m, n, D, Pl, hcs, hb, hl, hm, hmm, _, hx⟩
  · exact ⟨none, 0, 0, [], hcs, rfl, Nat.le_refl _, by omega, Sl.nil _ _, fun _ h => by cases h⟩
  · unfold maxLen at hm
    have hlm : l ≤ m := by rw [hmm]; split <;> omega
    have each : ∀ i, i < l → ∃ q : α, (∀ j, j < k → w.cell? (a.add (i * k + j)) = (en q)[j]?) ∧ R q := by
      intro i hi
      obtain ⟨cs', h1, h2⟩ := hx i (by omega)
      rw [hc] at h1
      obtain ⟨_, hlen, hcell⟩ := World.cells?_some h1
      obtain ⟨q, hq, hr⟩ := hread _ _ _ hlen h2
      refine ⟨q, fun j hj => ?_, hr⟩
      have := hcell j hj
      rw [Deep.add_add, hq] at this
      exact this
    obtain ⟨V, hV⟩ := Deep.choose_lt each
    refine ⟨some a, l, c, (List.range l).map V, hcs, by simp, hl, hm, ?_, fun y hy => ?_⟩
    · intro hne
      have hlen : 0 < l := by
        rcases Nat.eq_zero_or_pos l with h0 | h0
        · subst h0; simp [flatK] at hne
        · exact h0
      obtain ⟨b, off, spot⟩ := a
      have hz := (hV 0 hlen).1 0 k0
      have hspot : spot = none := by
        have h1 : 0 < (en (V 0)).length := by rw [hk]; exact k0
        rw [List.getElem?_eq_getElem h1] at hz
        simpa [Addr.add] using World.cell?_spot hz
      subst hspot
      refine ⟨b, off, rfl, fun j u hu => ?_⟩
      have addp : ∀ i, (⟨b, off, none⟩ : Addr).add i = ⟨b, off + i, none⟩ := fun i => by
        unfold Addr.add
        split
        · next h0 => subst h0; rfl
        · rfl
      have hj : j < l * k := by
        have := (List.getElem?_eq_some_iff.1 hu).1
        rw [flatK_len en k hk] at this
        simpa using this
      have hi : j / k < l := (Nat.div_lt_iff_lt_mul k0).2 hj
      have hr : j % k < k := Nat.mod_lt _ k0
      have hjj : j / k * k + j % k = j := by rw [Nat.mul_comm]; exact Nat.div_add_mod j k
      have h1 := flatK_get en k hk ((List.range l).map V) (j / k) (j % k) (by simpa using hi) hr
      rw [hjj, hu] at h1
      have h2 := (hV (j / k) hi).1 (j % k) hr
      rw [hjj, addp] at h2
      simp only [List.getElem_map, List.getElem_range] at h1
      rw [h2, ← h1]
    · obtain ⟨i, hi, rfl⟩ := List.mem_map.1 hy
      exact (hV i (List.mem_range.1 hi)).2
end Go.Proofs.YtjglanjfgbipmaaGreatDoor
/- How an argument that is a slice of ints is opened: its list, where it lies, its bounds. -/
namespace Go.Proofs.YtjglanjfgbipmaaGreatDoor
open Go.ChangeShapes Go.WideShapes Go.ChangeAt Go.RowKit

/-- an argument that is a slice of ints: its list, where it lies, its bounds -/
theorem open_list {H : Type} {enc : TypeId × Value → H} {P : Program} {w : World} {base : Nat} {spare : Nat → Bool} {held : Bool} {t e : TypeId} {A : Option Addr} {len cap : Nat} {d : DataW H} {p : List MemPlace}
    (ht : P.underlying t = some (.slice e)) (he : P.underlying e = some (.int .i64)) (hc : P.cellsOf e = 1) (h : DataW.Trod enc P w base spare held t (.slice A len cap) d p) :
    ∃ l : List Int, l.length = len ∧ len ≤ cap ∧ cap ≤ 9223372036854775807 ∧ Ints w A l ∧ ∀ n ∈ l, (Lit.int .i64 n).wf = true := by
  obtain ⟨fuel, hf⟩ := h
  rcases open_ints ht he hc hf with ⟨hcs, _⟩ | ⟨x, l, c, zs, hcs, _, hl, hm, hz, _, hcell, hwz⟩
  · simp [Value.cells] at hcs
    obtain ⟨rfl, rfl, rfl⟩ := hcs
    exact ⟨[], rfl, Nat.le_refl _, by omega, Sl.nil _ _, by simp⟩
  · simp [Value.cells] at hcs
    obtain ⟨rfl, rfl, rfl⟩ := hcs
    unfold maxLen at hm
    have hzl : len ≤ zs.length := by
      rw [hz]; split <;> omega
    refine ⟨zs.take len, by rw [List.length_take]; omega, hl, hm, ?_, fun n hn => hwz n (List.mem_of_mem_take hn)⟩
    intro hne
    have hlen : 0 < len := by
      rcases Nat.eq_zero_or_pos len with h0 | h0
      · subst h0; simp at hne
      · exact h0
    obtain ⟨b, off, spot⟩ := x
    have hc0 := hcell 0 (by omega)
    have hspot : spot = none := by simpa [Addr.add] using World.cell?_spot hc0
    subst hspot
    refine ⟨b, off, rfl, fun j u hu => ?_⟩
    have hj : j < len := by
      have := (List.getElem?_eq_some_iff.1 hu).1
      simp at this; omega
    have := hcell j (by omega)
    rw [List.getElem?_map, List.getElem?_take, if_pos hj] at hu
    rw [List.getElem?_eq_getElem (by omega)] at hu
    simp at hu
    subst hu
    rw [show zs.getD j 0 = zs[j]'(by omega) by simp [List.getD, List.getElem?_eq_getElem (show j < zs.length by omega)]] at this
    unfold Addr.add at this
    split at this
    · next h0 => subst h0; simpa using this
    · exact this
end Go.Proofs.YtjglanjfgbipmaaGreatDoor
/- How arguments that are slices of mappings or of ranges, or sets, are opened. -/
namespace Go.Proofs.YtjglanjfgbipmaaGreatDoor
open Go.ChangeShapes Go.WideShapes Go.ChangeAt Go.RowKit

section
variable {H : Type} {enc : TypeId × Value → H} {w : World} {base : Nat} {spare : Nat → Bool} {held : Bool} {fuel : Nat} {cs : List Value} {x : DataW H × List MemPlace}

theorem mci : Tryz.prog.cellsOf 3 = 1 := by kernel_rfl
theorem mcs : Tryz.prog.cellsOf 9 = 1 := by kernel_rfl
theorem mcI : Tryz.prog.cellsOf 38 = 1 := by kernel_rfl
theorem mcR : Tryz.prog.cellsOf 24 = 1 := by kernel_rfl
theorem mcM : Tryz.prog.cellsOf 23 = 1 := by kernel_rfl
theorem mcS : Tryz.prog.cellsOf 26 = 1 := by kernel_rfl

theorem open_intsM (h : DataW.trod enc Tryz.prog w base spare held fuel 38 cs = some x) :
    ∃ A len cap, ∃ l : List Int, cs = [.slice A len cap] ∧ l.length = len ∧ len ≤ cap ∧ cap ≤ 9223372036854775807 ∧ Ints w A l := by
  obtain ⟨A, len, cap, l, h1, h2, h3, h4, h5, _⟩ := open_recs (α := Int) (fun z => [.int .i64 z]) 1 (by omega) (fun _ => rfl) (fun _ => True) Tryz.underlying38 mci (fun fuel cs x hl hx => by
    obtain ⟨z, hz, _, _⟩ := DataW.trod_int Tryz.underlying3 hx
    exact ⟨z, hz, trivial⟩) h
  refine ⟨A, len, cap, l, h1, h2, h3, h4, ?_⟩
  unfold Recs flatK at h5
  unfold Ints
  rw [show l.map (Value.int .i64) = l.flatMap (fun z => [.int .i64 z]) by clear h2 h5; induction l <;> simp_all]
  exact h5

instance : Inhabited Rg := ⟨⟨0, 0⟩⟩

set_option maxRecDepth 100000 in
theorem open_rgs (h : DataW.trod enc Tryz.prog w base spare held fuel 24 cs = some x) :
    ∃ A len cap, ∃ l : List Rg, cs = [.slice A len cap] ∧ l.length = len ∧ len ≤ cap ∧ cap ≤ 9223372036854775807 ∧ Rgs w A l ∧ ∀ _ ∈ l, True := by
  refine open_recs (α := Rg) Rg.cells 2 (by omega) (fun _ => rfl) (fun _ => True) Tryz.underlying24 (by kernel_rfl) (fun fuel cs x hl hx => ?_) h
  obtain ⟨xs, k, hk, hxy, _, hxl, hfs⟩ := DataW.trod_struct Tryz.underlying69 hx
  match xs, hxl, cs, hl with
  | [y0, y1], _, [v0, v1], _ =>
    have g0 := hfs 0 _ rfl
    have g1 := hfs 1 _ rfl
    simp [mci] at g0 g1
    obtain ⟨z0, e0, _, _⟩ := DataW.trod_int Tryz.underlying3 g0
    obtain ⟨z1, e1, _, _⟩ := DataW.trod_int Tryz.underlying3 g1
    simp at e0 e1
    subst e0; subst e1
    exact ⟨⟨z0, z1⟩, rfl, trivial⟩

set_option maxRecDepth 100000 in
theorem open_set (hcl : cs.length = 1) (h : DataW.trod enc Tryz.prog w base spare held fuel 26 cs = some x) :
    ∃ A len cap, ∃ l : List Rg, cs = [.slice A len cap] ∧ l.length = len ∧ len ≤ cap ∧ cap ≤ 9223372036854775807 ∧ Rgs w A l := by
  obtain ⟨xs, k, hk, hxy, _, hxl, hfs⟩ := DataW.trod_struct Tryz.underlying26 h
  match xs, hxl, cs, hcl with
  | [y0], _, [v0], _ =>
    have g0 := hfs 0 _ rfl
    simp [mcR] at g0
    obtain ⟨A, len, cap, l, h1, h2, h3, h4, h5, _⟩ := open_rgs g0
    exact ⟨A, len, cap, l, h1, h2, h3, h4, h5⟩

/-- what is known of a mapping that lies in memory -/
def MpR (w : World) (p : Mp × Value) : Prop := ∃ C c, p.2 = .slice C p.1.to.length c ∧ p.1.to.length ≤ c ∧ c ≤ 9223372036854775807 ∧ Ints w C p.1.to ∧ p.1.tag.size ≤ 9223372036854775807
set_option maxRecDepth 100000 in
theorem open_maps (h : DataW.trod enc Tryz.prog w base spare held fuel 23 cs = some x) :
    ∃ A len cap, ∃ l : List Mp, cs = [.slice A len cap] ∧ l.length = len ∧ len ≤ cap ∧ cap ≤ 9223372036854775807 ∧ Mps w A l ∧ ∀ i, (hi : i < l.length) → l[i].to.length ≤ 9223372036854775807 ∧ l[i].tag.size ≤ 9223372036854775807 := by
  have : Inhabited (Mp × Value) := ⟨(⟨0, [], .empty⟩, .bool false)⟩
  obtain ⟨A, len, cap, l, h1, h2, h3, h4, h5, h6⟩ := open_recs (α := Mp × Value) mpC 3 (by omega) (fun _ => rfl) (MpR w) Tryz.underlying23 (by kernel_rfl) (fun fuel cs x hl hx => by
    obtain ⟨xs, k, hk, hxy, _, hxl, hfs⟩ := DataW.trod_struct Tryz.underlying52 hx
    match xs, hxl, cs, hl with
    | [y0, y1, y2], _, [v0, v1, v2], _ =>
      have g0 := hfs 0 _ rfl
      have g1 := hfs 1 _ rfl
      have g2 := hfs 2 _ rfl
      simp [mci, mcI, mcs] at g0 g1 g2
      obtain ⟨z0, e0, _, _⟩ := DataW.trod_int Tryz.underlying3 g0
      obtain ⟨A1, n1, c1, l1, e1, f1, q1, r1, i1⟩ := open_intsM g1
      obtain ⟨z2, e2, _, hs⟩ := DataW.trod_string Tryz.underlying9 g2
      simp at e0 e1 e2
      subst e0; subst e1; subst e2; subst f1
      exact ⟨(⟨z0, l1, z2⟩, .slice A1 l1.length c1), rfl, A1, c1, rfl, q1, r1, i1, by unfold maxLen at hs; show z2.size ≤ _; omega⟩) h
  have hz : (l.map Prod.fst).zip (l.map Prod.snd) = l := (List.zip_of_prod rfl rfl).symm
  refine ⟨A, len, cap, l.map Prod.fst, h1, by simpa using h2, h3, h4, ⟨l.map Prod.snd, by simp, by rw [hz]; exact h5, fun i hi hv => ?_⟩, fun i hi => ?_⟩
  · have hl : i < l.length := by simpa using hi
    obtain ⟨C, c, e1, e2, _, e4, _⟩ := h6 l[i] (List.getElem_mem hl)
    exact ⟨C, c, by simpa using e1, by simpa using e2, by simpa using e4⟩
  · have hl : i < l.length := by simpa using hi
    obtain ⟨C, c, e1, e2, e3, _, e5⟩ := h6 l[i] (List.getElem_mem hl)
    simp only [List.getElem_map]
    exact ⟨by omega, e5⟩
end
end Go.Proofs.YtjglanjfgbipmaaGreatDoor
/- How an argument that is the data of normalization is opened; what the list of variables of a row gives. -/
namespace Go.Proofs.YtjglanjfgbipmaaGreatDoor
open Go.ChangeShapes Go.WideShapes Go.ChangeAt Go.RowKit

section
variable {H : Type} {enc : TypeId × Value → H} {w : World} {base : Nat} {spare : Nat → Bool} {held : Bool} {fuel : Nat} {cs : List Value} {x : DataW H × List MemPlace}
instance : Inhabited Spn := ⟨⟨0, 0, 0⟩⟩
theorem mcSp : Tryz.prog.cellsOf 22 = 1 := by kernel_rfl
set_option maxRecDepth 100000 in
theorem open_spns (h : DataW.trod enc Tryz.prog w base spare held fuel 22 cs = some x) :
    ∃ A len cap, ∃ l : List Spn, cs = [.slice A len cap] ∧ l.length = len ∧ len ≤ cap ∧ cap ≤ 9223372036854775807 ∧ Spans w A l := by
  obtain ⟨A, len, cap, l, h1, h2, h3, h4, h5, _⟩ := open_recs (α := Spn) (fun s => [.int .i64 s.lo, .int .i64 s.hi, .int .i64 s.val]) 3 (by omega) (fun _ => rfl) (fun _ => True) Tryz.underlying22 (by kernel_rfl) (fun fuel cs x hl hx => by
    obtain ⟨xs, k, hk, hxy, _, hxl, hfs⟩ := DataW.trod_struct Tryz.underlying54 hx
    match xs, hxl, cs, hl with
    | [y0, y1, y2], _, [v0, v1, v2], _ =>
      have g0 := hfs 0 _ rfl
      have g1 := hfs 1 _ rfl
      have g2 := hfs 2 _ rfl
      simp [mci] at g0 g1 g2
      obtain ⟨z0, e0, _, _⟩ := DataW.trod_int Tryz.underlying3 g0
      obtain ⟨z1, e1, _, _⟩ := DataW.trod_int Tryz.underlying3 g1
      obtain ⟨z2, e2, _, _⟩ := DataW.trod_int Tryz.underlying3 g2
      simp at e0 e1 e2
      subst e0; subst e1; subst e2
      exact ⟨⟨z0, z1, z2⟩, rfl, trivial⟩) h
  exact ⟨A, len, cap, l, h1, h2, h3, h4, h5⟩
end

/-- the bounds of data that lies in memory -/
structure NrmLn (x : Nrm) : Prop where
  z0 : x.cls.length ≤ 9223372036854775807
  z1 : x.dec.length ≤ 9223372036854775807
  z2 : x.exc.length ≤ 9223372036854775807
  ze : ∀ i, (hi : i < x.dec.length) → x.dec[i].to.length ≤ 9223372036854775807 ∧ x.dec[i].tag.size ≤ 9223372036854775807

section
variable {H : Type} {enc : TypeId × Value → H} {w : World} {base : Nat} {spare : Nat → Bool} {held : Bool}
set_option maxRecDepth 100000 in
theorem open_norm {v : Value} {r : Reach} {b0 : Nat} {d : DataW H} {p : List MemPlace} (hok : Value.okWide Tryz.prog w r b0 28 v) (h : DataW.Trod enc Tryz.prog w base spare held 28 v d p) :
    ∃ A0 k0 A1 k1 A2 k2, ∃ C : Nrm, v = .agg #[.slice A0 C.cls.length k0, .slice A1 C.dec.length k1, .slice A2 C.exc.length k2] ∧ NrmAt w A0 C.cls.length A1 C.dec.length A2 C.exc.length C ∧ NrmLn C := by
  obtain ⟨fuel, hf⟩ := h
  obtain ⟨cs, rfl, _⟩ := okWide_struct Tryz.underlying28 hok
  obtain ⟨xs, k, hk, hxy, hcl, hxl, hfs⟩ := DataW.trod_struct Tryz.underlying28 hf
  have h6 : Tryz.prog.cellsOf 28 = 3 := by kernel_rfl
  rw [h6] at hcl
  obtain ⟨cs⟩ := cs
  simp only [Value.cells] at hcl hfs
  match xs, hxl, cs, hcl with
  | [y0, y1, y2], _, [v0, v1, v2], _ =>
    have g0 := hfs 0 _ rfl
    have g1 := hfs 1 _ rfl
    have g2 := hfs 2 _ rfl
    simp [mcSp, mcM, mcS] at g0 g1 g2
    obtain ⟨A0, n0, c0, l0, e0, f0, q0, r0, i0⟩ := open_spns g0
    obtain ⟨A1, n1, c1, l1, e1, f1, q1, r1, i1, s1⟩ := open_maps g1
    obtain ⟨A2, n2, c2, l2, e2, f2, q2, r2, i2⟩ := open_set rfl g2
    simp at e0 e1 e2
    subst e0; subst e1; subst e2
    subst f0; subst f1; subst f2
    exact ⟨A0, c0, A1, c1, A2, c2, ⟨l0, l1, l2⟩, rfl, ⟨i0, i1, i2, rfl, rfl, rfl⟩, ⟨by show l0.length ≤ _; omega, by show l1.length ≤ _; omega, by show l2.length ≤ _; omega, s1⟩⟩
end

theorem gName : Tryz.prog.globalNamed "unicodetext/ordering.hangulRanges" = some 0 := by kernel_rfl
theorem gType : (Tryz.prog.globals[0]?).map (·.type) = some 113 := by kernel_rfl

/-- what the rows' list of variables gives -/
theorem laid_of {W : World} (h : laidMet Tryz.prog [("unicodetext/ordering.hangulRanges", Rows.laid_unicodetext_ordering_hangulRanges)] W) : Laid W := by
  obtain ⟨ps, ⟨g', t', cs, fuel, p, q, hg', ht', hvar, hd, _, _⟩, _⟩ := h
  obtain rfl := Option.some.inj (gName.symm.trans hg')
  obtain rfl := Option.some.inj (gType.symm.trans ht')
  have cr : Tryz.prog.cellsOf 69 = 2 := by kernel_rfl
  have ci : Tryz.prog.cellsOf 3 = 1 := by kernel_rfl
  obtain ⟨xs, m, _, hxy, hlen, hxl, hel⟩ := DataW.trod_array Tryz.underlying113 hd
  match xs, hxl with
  | [y0, y1, y2, y3], _ =>
    simp only [Rows.laid_unicodetext_ordering_hangulRanges, Prod.mk.injEq, DataW.agg.injEq, List.map_cons, List.map_nil, List.cons.injEq, and_true] at hxy
    obtain ⟨⟨e0, e1, e2, e3⟩, _⟩ := hxy
    have pair : ∀ (enc : TypeId × Value → Unit) (base : Nat) (spare : Nat → Bool) (held : Bool) (i : Nat) (a b : Int) (y : DataW Unit × List MemPlace), DataW.trod enc Tryz.prog W base spare held m 69 ((cs.toList.drop (i * 2)).take 2) = some y → .agg [.lit (.int .i64 a), .lit (.int .i64 b)] = y.1 → cs.toList[i * 2]? = some (.int .i64 a) ∧ cs.toList[i * 2 + 1]? = some (.int .i64 b) := by
      intro enc base spare held i a b y hy he
      obtain ⟨zs, k, _, hz, hzl, hzn, hfs⟩ := DataW.trod_struct Tryz.underlying69 hy
      match zs, hzn with
      | [u0, u1], _ =>
        have g0 := hfs 0 _ rfl
        have g1 := hfs 1 _ rfl
        obtain ⟨z0, f0, rfl, _⟩ := DataW.trod_int Tryz.underlying3 g0
        obtain ⟨z1, f1, rfl, _⟩ := DataW.trod_int Tryz.underlying3 g1
        subst hz
        simp at he
        obtain ⟨rfl, rfl⟩ := he
        have h0 := congrArg (·[0]?) f0
        have h1 := congrArg (·[0]?) f1
        simp [ci, List.getElem?_drop] at h0 h1
        exact ⟨by simpa using h0, by simpa using h1⟩
    rw [cr] at hel
    have p0 := pair _ _ _ _ 0 _ _ _ (hel 0 (by omega)) e0
    have p1 := pair _ _ _ _ 1 _ _ _ (hel 1 (by omega)) e1
    have p2 := pair _ _ _ _ 2 _ _ _ (hel 2 (by omega)) e2
    have p3 := pair _ _ _ _ 3 _ _ _ (hel 3 (by omega)) e3
    have cell := fun i => World.var?_cell gName hvar i
    simp only [← Array.getElem?_toList] at cell
    exact ⟨(cell 0).trans p0.1, (cell 1).trans p0.2, (cell 2).trans p1.1, (cell 3).trans p1.2, (cell 4).trans p2.1, (cell 5).trans p2.2, (cell 6).trans p3.1, (cell 7).trans p3.2⟩

end Go.Proofs.YtjglanjfgbipmaaGreatDoor
/- The list of pairs asq the reference makes it. Plain. -/
namespace Go.Proofs.YtjglanjfgbipmaaGreatDoor
open Go.RowKit

/-- put a triple at an index -/
def insT (L : List (Int × Int × Int)) (k : Nat) (t : Int × Int × Int) : List (Int × Int × Int) := L.take k ++ t :: L.drop k
theorem insT_len {L : List (Int × Int × Int)} {k : Nat} {t : Int × Int × Int} : (insT L k t).length = L.length + 1 := by
  unfold insT
  rw [List.length_append, List.length_cons, List.length_take, List.length_drop]
  omega
theorem insT_mem {L : List (Int × Int × Int)} {k : Nat} {t y : Int × Int × Int} : y ∈ insT L k t ↔ y = t ∨ y ∈ L := by
  unfold insT
  rw [List.mem_append, List.mem_cons]
  constructor
  · rintro (h | h | h)
    · exact .inr (List.mem_of_mem_take h)
    · exact .inl h
    · exact .inr (List.mem_of_mem_drop h)
  · rintro (h | h)
    · exact .inr (.inl h)
    · rw [← List.take_append_drop k L, List.mem_append] at h
      rcases h with h | h
      · exact .inl h
      · exact .inr (.inr h)
theorem insT_asc {L : List (Int × Int × Int)} {k : Nat} {t : Int × Int × Int} (hL : L.Pairwise befT) (hk : k ≤ L.length) (h1 : ∀ j, (hj : j < L.length) → k ≤ j → befT t L[j]) (h2 : k = 0 ∨ ∃ hj : k - 1 < L.length, ¬ befT t L[k - 1])
    (hd : ∀ y ∈ L, ¬ (y.1 = t.1 ∧ y.2.1 = t.2.1)) : (insT L k t).Pairwise befT := by
  unfold insT
  rw [List.pairwise_append, List.pairwise_cons]
  have hp := hL
  rw [← List.take_append_drop k L, List.pairwise_append] at hp
  have hlast : ∀ y ∈ L.take k, befT y t := by
    intro y hy
    rcases h2 with rfl | ⟨hj, hn⟩
    · simp at hy
    · have hk0 : 0 < k := by
        rcases Nat.eq_zero_or_pos k with e | e
        · subst e; simp at hy
        · exact e
      have hb : befT L[k - 1] t := by
        have hd' := hd _ (List.getElem_mem hj)
        unfold befT at hn ⊢
        omega
      obtain ⟨j, hj2, rfl⟩ := List.mem_iff_getElem.1 hy
      rw [List.length_take] at hj2
      rw [List.getElem_take]
      rcases Nat.lt_or_ge j (k - 1) with g | g
      · exact befT_trans (List.pairwise_iff_getElem.1 hL j (k - 1) (by omega) hj g) hb
      · have e : j = k - 1 := by omega
        subst e
        exact hb
  have hdrop : ∀ y ∈ L.drop k, befT t y := by
    intro y hy
    obtain ⟨j, hj, rfl⟩ := List.mem_iff_getElem.1 hy
    rw [List.length_drop] at hj
    rw [List.getElem_drop]
    exact h1 _ _ (by omega)
  refine ⟨hp.1, ⟨hdrop, hp.2.1⟩, fun a ha b hb => ?_⟩
  rcases List.mem_cons.1 hb with rfl | hb
  · exact hlast a ha
  · exact befT_trans (hlast a ha) (hdrop b hb)

/-- the list after i mappings -/
structure PairsAt (x : Nrm) (i : Nat) (L : List (Int × Int × Int)) : Prop where
  asc : L.Pairwise befT
  mem : ∀ a b c, (a, b, c) ∈ L ↔ pcL x (x.dec.take i) (a, b) = some c
  len : L.length ≤ i
theorem PairsAt.start (x : Nrm) : PairsAt x 0 [] := ⟨List.Pairwise.nil, fun a b c => by rw [pcL_none]; simp, Nat.le_refl _⟩
theorem PairsAt.done {x : Nrm} {L : List (Int × Int × Int)} (h : PairsAt x x.dec.length L) : PairsOk x L := ⟨h.asc, fun a b c => by rw [h.mem, List.take_length]; rfl⟩
theorem PairsAt.no {x : Nrm} {i : Nat} {L : List (Int × Int × Int)} (h : PairsAt x i L) (hi : i < x.dec.length) (hc : cpB x x.dec[i] = false) : PairsAt x (i + 1) L :=
  ⟨h.asc, fun a b c => by rw [h.mem, pcL_skip hi (.inl hc)], by have := h.len; omega⟩
theorem prL_up {x : Nrm} {i : Nat} {p : Int × Int} {v : Int} (h : prL x (x.dec.take i) p = some v) : prL x x.dec p = some v := by
  unfold prL at *
  have e : x.dec = x.dec.take i ++ x.dec.drop i := (List.take_append_drop _ _).symm
  conv => lhs; rw [e]
  rw [List.find?_append]
  cases hf : (x.dec.take i).find? (cpAt x p) with
  | none => rw [hf] at h; cases h
  | some m => rw [hf] at h; exact h
theorem prN_take {x : Nrm} {i : Nat} (hi : i < x.dec.length) (h1 : cpB x x.dec[i] = true) (h2 : (Hg.comp (keyP x.dec[i]).1 (keyP x.dec[i]).2).2 = false) : prN x (keyP x.dec[i]).1 (keyP x.dec[i]).2 = some ((prL x (x.dec.take i) (keyP x.dec[i])).getD x.dec[i].frm) := by
  unfold prN prM
  rw [if_neg (by simp [h2])]
  have ht := prL_take hi (keyP x.dec[i])
  have hm : ∀ v, prL x (x.dec.take (i + 1)) (keyP x.dec[i]) = some v → prL x x.dec (keyP x.dec[i]) = some v := fun v h => prL_up h
  cases hf : prL x (x.dec.take i) (keyP x.dec[i]) with
  | some v => rw [hf] at ht; exact hm v ht
  | none =>
    rw [hf] at ht
    dsimp only at ht
    rw [if_pos (by unfold cpAt; simp [h1])] at ht
    exact hm _ ht
theorem PairsAt.skip {x : Nrm} {i : Nat} {L : List (Int × Int × Int)} (h : PairsAt x i L) (hi : i < x.dec.length) (h1 : cpB x x.dec[i] = true) (hc : ¬ (prN x (keyP x.dec[i]).1 (keyP x.dec[i]).2).getD 0 = x.dec[i].frm) : PairsAt x (i + 1) L := by
  refine ⟨h.asc, fun a b c => ?_, by have := h.len; omega⟩
  rw [h.mem, pcL_skip hi]
  cases h2 : (Hg.comp (keyP x.dec[i]).1 (keyP x.dec[i]).2).2 with
  | true => exact .inr (.inl rfl)
  | false =>
    refine .inr (.inr ?_)
    rw [prN_take hi h1 h2] at hc
    unfold pcL
    rw [if_neg (by simp [h2])]
    cases hf : prL x (x.dec.take i) (keyP x.dec[i]) with
    | some v => exact ⟨v, rfl⟩
    | none => rw [hf] at hc; exact absurd rfl hc
theorem PairsAt.put {x : Nrm} (ho : NOk x) {i : Nat} {L : List (Int × Int × Int)} (h : PairsAt x i L) (hi : i < x.dec.length) (h1 : cpB x x.dec[i] = true) (hc : (prN x (keyP x.dec[i]).1 (keyP x.dec[i]).2).getD 0 = x.dec[i].frm)
    {k : Nat} (hk : k ≤ L.length) (g1 : ∀ j, (hj : j < L.length) → k ≤ j → befT ((keyP x.dec[i]).1, (keyP x.dec[i]).2, x.dec[i].frm) L[j]) (g2 : k = 0 ∨ ∃ hj : k - 1 < L.length, ¬ befT ((keyP x.dec[i]).1, (keyP x.dec[i]).2, x.dec[i].frm) L[k - 1]) :
    PairsAt x (i + 1) (insT L k ((keyP x.dec[i]).1, (keyP x.dec[i]).2, x.dec[i].frm)) := by
  have h2 : (Hg.comp (keyP x.dec[i]).1 (keyP x.dec[i]).2).2 = false := by
    cases h2 : (Hg.comp (keyP x.dec[i]).1 (keyP x.dec[i]).2).2 with
    | false => rfl
    | true =>
      unfold prN at hc
      rw [if_pos h2] at hc
      have := (comp_decomp h2).2.2.2
      simp only [Option.getD_some] at hc
      rw [hc, ho.hg i hi] at this
      omega
  have h3 : pcL x (x.dec.take i) (keyP x.dec[i]) = none := by
    unfold pcL
    rw [if_neg (by simp [h2])]
    rw [prN_take hi h1 h2] at hc
    cases hf : prL x (x.dec.take i) (keyP x.dec[i]) with
    | none => rfl
    | some v =>
      rw [hf] at hc
      have := prL_lt ho.st hi hf
      simp at hc
      omega
  have hno : ∀ y ∈ L, ¬ (y.1 = (keyP x.dec[i]).1 ∧ y.2.1 = (keyP x.dec[i]).2) := by
    rintro ⟨a, b, c⟩ hy ⟨e1, e2⟩
    have := (h.mem a b c).1 hy
    dsimp only at e1 e2
    subst e1; subst e2
    rw [h3] at this
    cases this
  refine ⟨insT_asc h.asc hk g1 g2 hno, fun a b c => ?_, by rw [insT_len]; have := h.len; omega⟩
  rw [insT_mem, pcL_put hi h1 h2 h3]
  dsimp only
  by_cases e : (a, b) = keyP x.dec[i]
  · rw [if_pos e]
    constructor
    · rintro (g | g)
      · injection g with g3 g4; injection g4 with g5 g6; rw [g6]
      · exact absurd ⟨congrArg Prod.fst e, congrArg Prod.snd e⟩ (hno _ g)
    · intro g
      injection g with g
      refine .inl ?_
      rw [← e, g]
  · rw [if_neg e, ← h.mem a b c]
    constructor
    · rintro (g | g)
      · injection g with g3 g4; injection g4 with g5 g6; exact absurd (by rw [g3, g5]) e
      · exact g
    · exact .inr

/-! primary composites -/
theorem comp_four {a b : Int} (h : (Hg.comp a b).2 = true) : 4 ≤ Hg.kind (Hg.comp a b).1 := by
  unfold Hg.comp at h ⊢
  by_cases h1 : Hg.kind a = 1 ∧ Hg.kind b = 2
  · rw [if_pos h1]
    dsimp only
    have ra : 0x1100 ≤ a ∧ a ≤ 0x1112 := by rcases Hg.cases6 a with g | g | g | g | g | g <;> omega
    have rb : 0x1161 ≤ b ∧ b ≤ 0x1175 := by rcases Hg.cases6 b with g | g | g | g | g | g <;> omega
    rw [Hg.kind4 (by omega) (by omega)]
    omega
  · rw [if_neg h1] at h ⊢
    by_cases h2 : Hg.kind a = 4 ∧ Hg.kind b = 3
    · rw [if_pos h2]
      dsimp only
      have ra : 0xAC00 ≤ a ∧ a ≤ 0xD7A3 ∧ (a - 0xAC00) % 28 = 0 := by rcases Hg.cases6 a with g | g | g | g | g | g <;> omega
      have rb : 0x11A8 ≤ b ∧ b ≤ 0x11C2 := by rcases Hg.cases6 b with g | g | g | g | g | g <;> omega
      rw [Hg.kind5 (by omega) (by omega)]
      omega
    · rw [if_neg h2] at h; cases h
/-- whether a number is a primary composite -/
noncomputable def primB (x : Nrm) (c : Int) : Bool := @decide (4 ≤ Hg.kind c ∨ ∃ p, pcN x p = some c) (Classical.propDecidable _)
theorem primB_iff {x : Nrm} {c : Int} : primB x c = true ↔ (4 ≤ Hg.kind c ∨ ∃ p, pcN x p = some c) := by
  unfold primB
  exact @decide_eq_true_iff _ (Classical.propDecidable _)
theorem primB_of {x : Nrm} {c : Int} {b : Bool} (h : b = true ↔ (4 ≤ Hg.kind c ∨ ∃ p, pcN x p = some c)) : b = primB x c := by
  rw [Bool.eq_iff_iff, h, primB_iff]
theorem prim_pr {x : Nrm} {a b c : Int} (h : prN x a b = some c) : primB x c = true := by
  rw [primB_iff]
  rw [prN_pc] at h
  split at h
  · next hc => injection h with h; subst h; exact .inl (comp_four hc)
  · exact .inr ⟨(a, b), h⟩
theorem prim_list {x : Nrm} {L : List (Int × Int × Int)} (hL : PairsOk x L) {c : Int} : (∃ t ∈ L, t.2.2 = c) ↔ ∃ p, pcN x p = some c := by
  constructor
  · rintro ⟨⟨a, b, d⟩, ht, rfl⟩; exact ⟨(a, b), (hL.mem a b d).1 ht⟩
  · rintro ⟨⟨a, b⟩, h⟩; exact ⟨(a, b, c), (hL.mem a b c).2 h, rfl⟩
end Go.Proofs.YtjglanjfgbipmaaGreatDoor
/- Steps of a held drawn region that write: a store, an append to an owned row. -/
namespace Go.Proofs.YtjglanjfgbipmaaGreatDoor
open Go.RowKit

section
variable {P : Program} {ops : Array Oper} {Q : Exit → Act → World → Prop} {md : Region.Mode} {S : World → Prop}
/-- an operation that yields nothing and changes the world, the only one that may come up -/
theorem anyH_unit {i : Nat} {oi : Oper} {fuel : Nat} {listed : Array Bool} {a : Act} {w w' : World} (d : Option Tmp) (hi : ops[i]? = some oi) (hd : oi.dst = d)
    (hr : Region.ready md ops listed = [i]) (hw : Region.wanted oi (yielded ops a.tmps) = true) (he : (execOp a.eval oi).run P w = .ok .skip w') (hS : S w')
    (h : wpAnyH P md ops Q S fuel (listed.setIfInBounds i true) (a.put d undef) w') : wpAnyH P md ops Q S (fuel + 1) listed a w := by
  subst hd
  refine anyH_do hi hr hw (fun K hK => ?_)
  unfold Oper.wp
  rw [he]
  simp only [Oper.upon]
  exact hK.out _ _ hS (fun _ => h)
/-- an append to an owned row, the only operation that may come up -/
theorem anyH_app {i : Nat} {oi : Oper} {fuel : Nat} {listed : Array Bool} {a : Act} {w : World} (d : Option Tmp) (hi : ops[i]? = some oi) (hd : oi.dst = d)
    (hr : Region.ready md ops listed = [i]) (hw : Region.wanted oi (yielded ops a.tmps) = true) (s x : Operand) (t e : TypeId) (z : Value) (size bytes : Nat)
    (ho : oi.op = .call { callee := .builtin .append, args := #[s, x], argTypes := #[t, t] }) (ht : P.underlying t = some (.slice e))
    (hinfo : (P.info? e).map (fun i => (i.zero, i.size, i.bytes)) = some (some z, size, bytes)) (hzs : z.cells.size = size) (hsz : 0 < size) (hby : 0 < bytes)
    {base : Nat} {A : Option Addr} {n c : Nat} {xs : List Value} (hs : a.eval s = .slice A n c) (hown : w.ownsRow base e size (.slice A n c) n xs)
    {A' : Option Addr} {m c' : Nat} {news : List Value} (hx : a.eval x = .slice A' m c') (hrow : Sl w A' news) (hl : news.length = m * size) (h1 : ∀ u ∈ news, u.oneCell' = true)
    (hlim : (n + m) * bytes ≤ 140737488355328) (hbase : base ≤ w.heap.size)
    (h : ∀ B k w', w'.ownsRow base e size (.slice B (n + m) k) (n + m) (xs ++ news) → n + m ≤ k → Below base w w' → w.grownBy w' (Value.ownBlock (.slice A n c)) → (B = A ∨ B = some ⟨w.heap.size, 0, none⟩) →
      S w' ∧ wpAnyH P md ops Q S fuel (listed.setIfInBounds i true) (a.put d (.slice B (n + m) k)) w') : wpAnyH P md ops Q S (fuel + 1) listed a w := by
  subst hd
  refine anyH_do hi hr hw (fun K hK => ?_)
  obtain ⟨B, k, w', hrun, h2, h3, h4, h5, h6⟩ := run_app (P := P) t oi.type e z size bytes ht hinfo hzs hsz hby hown (c' := c') hrow hl h1 hlim hbase
  unfold Oper.wp execOp
  simp only [ho, resolve, invoke, builtin, Sem.run_bind, Sem.run_pure, Result.andThen_ok, List.map_toArray, List.map_cons, List.map_nil, hs, hx, hrun]
  have := h B k w' h2 h3 h4 h5 h6
  exact hK.out _ _ this.1 (fun _ => this.2)
end

section
variable {P : Program} {w : World}
/-- an append to no row -/
theorem wpList_app0 {ops : Array Oper} {rest : List Oper} {o : Oper} {a : Act} {Q : Exit → Act → World → Prop} (s x : Operand) (t e : TypeId) (z : Value) (size bytes : Nat)
    (hgd : o.guard = none) (ho : o.op = .call { callee := .builtin .append, args := #[s, x], argTypes := #[t, t] }) (ht : P.underlying t = some (.slice e))
    (hinfo : (P.info? e).map (fun i => (i.zero, i.size, i.bytes)) = some (some z, size, bytes)) (hzs : z.cells.size = size) (hsz : 0 < size) (hby : 0 < bytes)
    (hs : a.eval s = .slice none 0 0)
    {A' : Option Addr} {m c' : Nat} {news : List Value} (hx : a.eval x = .slice A' m c') (hr : Sl w A' news) (hl : news.length = m * size) (h1 : ∀ u ∈ news, u.oneCell' = true)
    (hlim : m * bytes ≤ 140737488355328)
    (h : ∀ B k w', w'.ownsRow w.heap.size e size (.slice B m k) m news → m ≤ k → Below w.heap.size w w' → wpList P ops Q rest (a.put o.dst (.slice B m k)) w') : wpList P ops Q (o :: rest) a w := by
  refine wpList_app s x t e z size bytes hgd ho ht hinfo hzs hsz hby hs (World.ownsRow_nil w w.heap.size _ _) hx hr hl h1 (by rw [Nat.zero_add]; exact hlim) (Nat.le_refl _) ?_
  intro B k w' h2 h3 h4 _ _
  rw [Nat.zero_add] at *
  exact h B k w' h2 h3 h4
end
end Go.Proofs.YtjglanjfgbipmaaGreatDoor
