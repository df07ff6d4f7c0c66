/- The contracts of casemap's targets, joined and the mapper's methods. -/
import Derived.Test.YtpamkbbmbeeheaaCasePlain
namespace Go.Proofs.Ytpamkbbmbeeheaa
open Go.RowKit Go.Maps Go.WideMaps

/-- numbers that may be keys -/
def iok (z : Int) : Prop := (Lit.int .i64 z).wf = true
def ikey (z : Int) : Lit := .int .i64 z
theorem ikey_inj {y z : Int} (h : ikey y = ikey z) : y = z := by injection h
theorem law_int : Keyed Try.prog 3 := int_keyed Try.underlying3
theorem key_int {z : Int} (h : iok z) : keyOf Try.prog 3 (.int .i64 z) = some (ikey z) := keyOf_int_mk Try.underlying3 h
theorem zero_is (w : World) : (zeroValue 32).run Try.prog w = .ok (.slice none 0 0) w := by kernel_rfl
theorem iok_of {z : Int} (h : inR 0 1114111 z = true) : iok z := by
  have := inR_iff.1 h
  exact wf_small (by omega) (by omega)

/-- f gives, at each number, a slice of what g gives -/
def TgtF (w : World) (f : Int → Option Value) (g : Int → Option (List Int)) : Prop :=
  ∀ x, iok x → match g x with | none => f x = none | some l => ∃ E d, f x = some (.slice E l.length d) ∧ l.length ≤ d ∧ Ints w E l
theorem TgtF.below {w w' : World} {f : Int → Option Value} {g : Int → Option (List Int)} (h : TgtF w f g) (hb : Below w.heap.size w w') : TgtF w' f g := fun x hx => by
  have := h x hx
  cases hl : g x with
  | none => rw [hl] at this; exact this
  | some l =>
    rw [hl] at this
    obtain ⟨E, d, h1, h2, h3⟩ := this
    exact ⟨E, d, h1, h2, h3.below hb⟩
theorem TgtF.at {w : World} {f : Int → Option Value} {g : Int → Option (List Int)} (h : TgtF w f g) {x : Int} (hx : iok x) :
    ∃ E d, (f x).getD (.slice none 0 0) = .slice E ((g x).getD []).length d ∧ (f x).isSome = (g x).isSome ∧ ((g x).getD []).length ≤ d ∧ Ints w E ((g x).getD []) := by
  have := h x hx
  cases hl : g x with
  | none => rw [hl] at this; rw [this]; exact ⟨none, 0, rfl, rfl, Nat.le_refl _, Sl.nil _ _⟩
  | some l =>
    rw [hl] at this
    obtain ⟨E, d, h1, h2, h3⟩ := this
    rw [h1]
    exact ⟨E, d, rfl, rfl, h2, h3⟩
theorem TgtF.put {w : World} {f : Int → Option Value} {ms : List Mp} {tag : ByteArray} {i : Nat} (h : TgtF w f (lastM (ms.take i) tag)) (hi : i < ms.length) (ht : ms[i].tag = tag) {E : Option Addr} {d : Nat} (hd : ms[i].to.length ≤ d) (hE : Ints w E ms[i].to) :
    TgtF w (fun y => if y = ms[i].frm then some (.slice E ms[i].to.length d) else f y) (lastM (ms.take (i + 1)) tag) := fun x hx => by
  rw [lastM_take hi]
  by_cases e : ms[i].frm = x
  · rw [if_pos ⟨ht, e⟩]
    dsimp only
    rw [if_pos e.symm]
    exact ⟨E, d, rfl, hd, hE⟩
  · rw [if_neg (fun a => e a.2)]
    dsimp only
    rw [if_neg (fun a => e a.symm)]
    exact h x hx
theorem TgtF.skip {w : World} {f : Int → Option Value} {ms : List Mp} {tag : ByteArray} {i : Nat} (h : TgtF w f (lastM (ms.take i) tag)) (hi : i < ms.length) (ht : ¬ ms[i].tag = tag) : TgtF w f (lastM (ms.take (i + 1)) tag) := fun x hx => by
  rw [lastM_take hi, if_neg (fun a => ht a.1)]
  exact h x hx
theorem TgtF.ext {w : World} {f : Int → Option Value} {g g' : Int → Option (List Int)} (h : TgtF w f g) (e : ∀ x, g x = g' x) : TgtF w f g' := (funext e : g = g') ▸ h
abbrev MapI (w : World) (b n : Nat) (f : Int → Option Value) : Prop := MapIs Try.prog 3 ikey iok w b n f
/-- block M is a map that gives what g gives -/
structure TgtAt (w : World) (M : Nat) (g : Int → Option (List Int)) : Prop where
  ex : ∃ k f, MapI w M k f ∧ TgtF w f g
theorem TgtAt.below {w w' : World} {M : Nat} {g : Int → Option (List Int)} (h : TgtAt w M g) (hb : Below w.heap.size w w') : TgtAt w' M g := by
  obtain ⟨k, f, h1, h2⟩ := h.ex
  exact ⟨k, f, h1.below hb, h2.below hb⟩
def RetTgt (g : Int → Option (List Int)) (w : World) (e : Ending) (w' : World) : Prop := ∃ M, e = .returned (.map (some M)) ∧ TgtAt w' M g ∧ Below w.heap.size w w'

set_option maxRecDepth 100000 in
set_option maxHeartbeats 3200000 in
theorem targets_any (A : Option Addr) (n a : Nat) (ms : List Mp) (tag : ByteArray) (w : World) (hA : Mps w A ms) (hn : ms.length = n) (hz : MpsSz ms) (hok : mapErr ms = 0) :
    Calls Try.prog 42 #[.slice A n a, .string tag] w (RetTgt (fun x => getM ms x tag) w) := by
  subst hn
  have HA := Lib.hid hA
  have hnz := hz.n
  have HOK := Lib.hid (fun i (hi : i < ms.length) => iok_of (mapErr_mem hok (List.getElem_mem hi)).1)
  have HG := Lib.hid (fun x => lastM_getM (mapErr_nodup hok) tag x)
  have hmm := @run_makeMap Try.prog
  clear hA hz hok
  go_enter Try.func42, Try.ntmps42
  go_wp2_with fail
  have B0 : Below w.heap.size w (w.alloc (.map #[] 0)) := (Below.refl _ _).alloc (Nat.le_refl _) _
  have HM0 := Lib.hid (MapIs.made Try.prog 3 ikey iok w)
  obtain ⟨W0, hW0⟩ : ∃ W0, w.alloc (.map #[] 0) = W0 := ⟨_, rfl⟩
  rw [hW0] at B0 HM0 ⊢
  clear hW0
  go_loopw [7, 11] (fun _ u wr => ∃ (i : Nat) (f : Int → Option Value), i ≤ ms.length ∧ u = .int .i64 i ∧ MapI wr w.heap.size i f ∧ TgtF wr f (lastM (ms.take i) tag) ∧ Below w.heap.size w wr) (fun _ u _ => ms.length - (intOf u).toNat)
  case atStart => exact ⟨0, _, Nat.zero_le _, rfl, HM0.out, fun x _ => rfl, B0⟩
  case round =>
    obtain ⟨i, f, hi, rfl, hM, hF, hb⟩ := hrel
    have HM := Lib.hid hM
    have HF := Lib.hid hF
    have hlm := hM.lt
    have NC := Lib.hid (fun o => hM.nocell o)
    clear hM HM0 hF
    by_cases hlt : i < ms.length
    · obtain ⟨b1, o1, rfl, hbl, hcell⟩ := (HA.out.below hb).at hlt
      obtain ⟨C, cc, c0, c1, c2, hcc, hC⟩ := hcell i hlt
      have hss := HOK.out i hlt
      have HCC := Lib.hid (And.intro hcc hC)
      have HP := Lib.hid (fun (W : World) (h : TgtF W f (lastM (ms.take i) tag)) (ht : ms[i].tag = tag) (hE : Ints W C ms[i].to) => h.put hlt ht (d := cc) hcc hE)
      have HS := Lib.hid (fun (W : World) (h : TgtF W f (lastM (ms.take i) tag)) (ht : ¬ ms[i].tag = tag) => h.skip hlt ht)
      clear hcell hcc hC
      generalize ms[i] = mi at *
      obtain ⟨mf, mt, mg⟩ := mi
      dsimp only at *
      have Ba : Below wr.heap.size wr (wr.alloc (.cells #[.int .i64 mf, .slice C mt.length cc, .string mg] 38)) := (Below.refl _ _).alloc (Nat.le_refl _) _
      by_cases he : mg = tag
      · have q1 := str_eqT he
        have HE := Lib.hid he
        clear he
        go_wp2_with (at_mapUpdate; refine wpList_mput rfl _ _ _ 61 rfl (HM.out.alloc _) law_int Try.underlying61 (by unfold maxLen; omega) rfl rfl rfl hss (key_int hss) (fun y _ e => ikey_inj e) ?_; intro w9 hM9 hg9)
        have hb9 := below_grown (hb.alloc hb.size (.cells #[.int .i64 mf, .slice C mt.length cc, .string mg] 38)) hg9 (by omega) (by have := hb.size; simp; omega)
        have KM : KeepM w.heap.size wr w9 := ((KeepM.refl _ _).below Ba).grown hg9
        have HR := Lib.hid (HP.out w9 (fun x hx => by
          have := HF.out x hx
          cases hl : lastM (ms.take i) tag x with
          | none => rw [hl] at this; exact this
          | some l => rw [hl] at this; obtain ⟨E, d, h1, h2, h3⟩ := this; exact ⟨E, d, h1, h2, KM.sl NC.out h3⟩) HE.out (KM.sl NC.out HCC.out.2))
        have HM9 := Lib.hid hM9
        clear hM9 hg9 KM HP HS
        go_roundw
        case rel => exact ⟨i + 1, _, by omega, by go_num, HM9.out, HR.out, hb9⟩
        case measure => simp [intOf]; omega
      · have q1 := str_eqF he
        have HE := Lib.hid he
        clear he
        have HR := Lib.hid (HS.out _ (HF.out.below Ba) HE.out)
        have HM9 := Lib.hid ((HM.out.below Ba).mono (Nat.le_succ i))
        have hb9 := hb.alloc hb.size (.cells #[.int .i64 mf, .slice C mt.length cc, .string mg] 38)
        clear HP HS
        go_wp2_with fail
        go_roundw
        case rel => exact ⟨i + 1, _, by omega, by go_num, HM9.out, HR.out, hb9⟩
        case measure => simp [intOf]; omega
    · have e1 : ms.take i = ms := List.take_of_length_le (by omega)
      have HF' := Lib.hid (e1 ▸ HF.out)
      clear HF e1
      go_wp2_with fail
      go_ret
      exact ⟨w.heap.size, rfl, ⟨_, f, HM.out, HF'.out.ext HG.out⟩, hb⟩

/-! the mapper -/
def Bools (w : World) (A : Option Addr) (bs : List Bool) : Prop := Sl w A (bs.map Value.bool)
theorem Bools.below {w w' : World} {A : Option Addr} {bs : List Bool} (h : Bools w A bs) (hb : Below w.heap.size w w') : Bools w' A bs := Sl.below h hb
theorem Bools.at {w : World} {A : Option Addr} {bs : List Bool} (h : Bools w A bs) {k : Nat} (hk : k < bs.length) :
    ∃ b o, A = some ⟨b, o, none⟩ ∧ b < w.heap.size ∧ ∀ j, (hj : j < bs.length) → w.cell? ⟨b, o + j, none⟩ = some (.bool bs[j]) := by
  obtain ⟨b, o, hA, hc⟩ := Sl.at h (k := k) (by simpa using hk)
  exact ⟨b, o, hA, World.block_lt_of_cell? w _ (hc k (.bool bs[k]) (by simp [hk])), fun j hj => hc j _ (by simp [hj])⟩

end Go.Proofs.Ytpamkbbmbeeheaa
