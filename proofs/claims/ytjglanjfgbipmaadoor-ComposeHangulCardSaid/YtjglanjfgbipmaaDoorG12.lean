/- Texts that are merged into one file: CpsPlain, CpEx, MeasC. -/
import Derived.Test.YtjglanjfgbipmaaDoorG06
import Derived.Test.YtjglanjfgbipmaaDoorG08
import Derived.Test.YtjglanjfgbipmaaDoorG10
import Derived.Test.YtjglanjfgbipmaaDoorG11
/- Composites of data of normalization: pairs, the list of pairs, the set of second elements. Plain. -/
namespace Go.Proofs.YtjglanjfgbipmaaDoor
open Go.RowKit

/-- data that counts -/
def usN (x : Nrm) : Nrm := if nErr x = 0 then x else ⟨[], [], []⟩
/-- what holds of data that counts -/
structure NOk (x : Nrm) : Prop where
  st : StF x.dec
  hg : NoHg x.dec
  co : CodesOk x.dec
  en : endB x.dec = true
  lo : longB x.dec = false
  kd : ∀ m ∈ x.dec, m.tag.size = 0 → m.to.length = 1 ∨ m.to.length = 2
theorem usN_ok (x : Nrm) : NOk (usN x) := by
  unfold usN
  split
  · next h =>
    obtain ⟨c, h1, h2⟩ := nErr_ck6 h
    refine ⟨StF_of c.t, NoHg_of c.d, mapErr_codes c.m, h1, h2, fun m hm ht => ?_⟩
    have := List.any_eq_false.1 c.k m hm
    unfold kindB at this
    simp [ht] at this
    omega
  · exact ⟨fun i j hi => by simp at hi, fun i hi => by simp at hi, fun i hi => by simp at hi, rfl, rfl, fun m hm => by simp at hm⟩
/-- whether a mapping makes its number a composite -/
def cpB (x : Nrm) (m : Mp) : Bool := decide (m.tag.size = 0) && decide (m.to.length = 2) && (decide (clz x.cls m.frm = 0) && decide (clz x.cls (m.to.getD 0 0) = 0) && !hasR x.exc m.frm)
def keyP (m : Mp) : Int × Int := (m.to.getD 0 0, m.to.getD 1 0)
def cpAt (x : Nrm) (p : Int × Int) (m : Mp) : Bool := cpB x m && decide (keyP m = p)
def prL (x : Nrm) (l : List Mp) (p : Int × Int) : Option Int := (l.find? (cpAt x p)).map Mp.frm
def prM (x : Nrm) (a b : Int) : Option Int := prL x x.dec (a, b)
/-- the primary composite -/
def prN (x : Nrm) (a b : Int) : Option Int := if (Hg.comp a b).2 = true then some (Hg.comp a b).1 else prM x a b
/-- the map of composites after i mappings -/
def pcL (x : Nrm) (l : List Mp) (p : Int × Int) : Option Int := if (Hg.comp p.1 p.2).2 = true then none else prL x l p
def pcN (x : Nrm) : Int × Int → Option Int := pcL x x.dec
section
variable {x : Nrm}
theorem prN_pc (a b : Int) : prN x a b = if (Hg.comp a b).2 = true then some (Hg.comp a b).1 else pcN x (a, b) := by
  unfold prN pcN pcL prM
  dsimp only
  by_cases h : (Hg.comp a b).2 = true
  · rw [if_pos h, if_pos h]
  · rw [if_neg h, if_neg h, if_neg h]
theorem prL_take {i : Nat} (hi : i < x.dec.length) (p : Int × Int) : prL x (x.dec.take (i + 1)) p = match prL x (x.dec.take i) p with | some v => some v | none => if cpAt x p x.dec[i] = true then some x.dec[i].frm else none := by
  unfold prL
  rw [List.take_succ_eq_append_getElem hi, List.find?_append]
  cases h : (x.dec.take i).find? (cpAt x p) with
  | some m => rfl
  | none =>
    simp only [Option.map_none, Option.none_or]
    by_cases hc : cpAt x p x.dec[i] = true
    · rw [if_pos hc]; simp [List.find?, hc]
    · rw [if_neg hc]; simp [List.find?, hc]
theorem prL_some {l : List Mp} {p : Int × Int} {v : Int} (h : prL x l p = some v) : ∃ t, ∃ ht : t < l.length, cpB x l[t] = true ∧ keyP l[t] = p ∧ l[t].frm = v := by
  unfold prL at h
  cases hf : l.find? (cpAt x p) with
  | none => rw [hf] at h; cases h
  | some m =>
    rw [hf] at h
    injection h with h
    obtain ⟨t, ht, e⟩ := List.getElem_of_mem (List.mem_of_find?_eq_some hf)
    have h2 := List.find?_some hf
    unfold cpAt at h2
    rw [Bool.and_eq_true, decide_eq_true_eq] at h2
    subst e
    exact ⟨t, ht, h2.1, h2.2, h⟩
theorem prL_has {l : List Mp} {t : Nat} (ht : t < l.length) (hc : cpB x l[t] = true) : ∃ v, prL x l (keyP l[t]) = some v := by
  unfold prL
  cases hf : l.find? (cpAt x (keyP l[t])) with
  | none =>
    have := List.find?_eq_none.1 hf _ (List.getElem_mem ht)
    unfold cpAt at this
    simp [hc] at this
  | some m => exact ⟨_, rfl⟩
/-- what has been found so far is less -/
theorem prL_lt (hs : StF x.dec) {i : Nat} (hi : i < x.dec.length) {p : Int × Int} {v : Int} (h : prL x (x.dec.take i) p = some v) : v < x.dec[i].frm := by
  obtain ⟨t, ht, _, _, h3⟩ := prL_some h
  rw [List.length_take] at ht
  rw [List.getElem_take] at h3
  have := hs t i (by omega) hi (by omega)
  omega
theorem pcL_skip {i : Nat} (hi : i < x.dec.length) (h : cpB x x.dec[i] = false ∨ (Hg.comp (keyP x.dec[i]).1 (keyP x.dec[i]).2).2 = true ∨ ∃ v, pcL x (x.dec.take i) (keyP x.dec[i]) = some v) : pcL x (x.dec.take (i + 1)) = pcL x (x.dec.take i) := by
  funext p
  unfold pcL
  split
  · rfl
  · next hc =>
    rw [prL_take hi]
    cases hp : prL x (x.dec.take i) p with
    | some v => rfl
    | none =>
      dsimp only
      rw [if_neg]
      unfold cpAt
      rw [Bool.and_eq_true, decide_eq_true_eq]
      rintro ⟨h1, h2⟩
      subst h2
      rcases h with h | h | ⟨v, h⟩
      · rw [h] at h1; cases h1
      · exact hc h
      · unfold pcL at h; rw [if_neg hc, hp] at h; cases h
theorem pcL_put {i : Nat} (hi : i < x.dec.length) (h1 : cpB x x.dec[i] = true) (h2 : (Hg.comp (keyP x.dec[i]).1 (keyP x.dec[i]).2).2 = false) (h3 : pcL x (x.dec.take i) (keyP x.dec[i]) = none) :
    pcL x (x.dec.take (i + 1)) = fun y => if y = keyP x.dec[i] then some x.dec[i].frm else pcL x (x.dec.take i) y := by
  funext p
  by_cases e : p = keyP x.dec[i]
  · subst e
    rw [if_pos rfl]
    unfold pcL at h3 ⊢
    rw [if_neg (by rw [h2]; simp)] at h3 ⊢
    rw [prL_take hi, h3]
    dsimp only
    rw [if_pos]
    unfold cpAt
    simp [h1]
  · rw [if_neg e]
    unfold pcL
    split
    · rfl
    · rw [prL_take hi]
      cases hp : prL x (x.dec.take i) p with
      | some v => rfl
      | none =>
        dsimp only
        rw [if_neg]
        unfold cpAt
        rw [Bool.and_eq_true, decide_eq_true_eq]
        rintro ⟨_, h⟩
        exact e h.symm
theorem pcL_none (x : Nrm) : pcL x (x.dec.take 0) = fun _ => none := by
  funext p
  unfold pcL prL
  split <;> rfl
/-- what a composite is -/
theorem prM_facts {a b c : Int} (h : prM x a b = some c) : ∃ t, ∃ ht : t < x.dec.length, x.dec[t].frm = c ∧ x.dec[t].to = [a, b] ∧ x.dec[t].tag.size = 0 ∧ clz x.cls c = 0 ∧ clz x.cls a = 0 := by
  obtain ⟨t, ht, h1, h2, h3⟩ := prL_some h
  unfold cpB at h1
  simp only [Bool.and_eq_true, decide_eq_true_eq, Bool.not_eq_true'] at h1
  obtain ⟨⟨g1, g2⟩, ⟨g3, g4⟩, _⟩ := h1
  refine ⟨t, ht, h3, ?_, g1, by rw [← h3]; exact g3, ?_⟩
  · unfold keyP at h2
    generalize x.dec[t].to = l at *
    match l, g2 with
    | [u, v], _ => simp at h2; rw [h2.1, h2.2]
  · have : (keyP x.dec[t]).1 = a := by rw [h2]
    rw [← this]
    exact g4
theorem keyP_pair {m : Mp} (h : m.to.length = 2) : m.to = [(keyP m).1, (keyP m).2] := by
  unfold keyP
  generalize m.to = l at *
  match l, h with
  | [u, v], _ => rfl
end

/-! decomposing a composite -/
theorem comp_decomp {a b : Int} (h : (Hg.comp a b).2 = true) : Hg.decomp (Hg.comp a b).1 = Hg.decomp a ++ Hg.decomp b ∧ 1 ≤ Hg.kind a ∧ 1 ≤ Hg.kind b ∧ 1 ≤ Hg.kind (Hg.comp a b).1 := by
  unfold Hg.comp at h ⊢
  by_cases h1 : Hg.kind a = 1 ∧ Hg.kind b = 2
  · rw [if_pos h1] at h ⊢
    dsimp only
    have ra : 0x1100 ≤ a ∧ a ≤ 0x1112 := by rcases Hg.cases6 a with g | g | g | g | g | g <;> omega
    have rb : 0x1161 ≤ b ∧ b ≤ 0x1175 := by rcases Hg.cases6 b with g | g | g | g | g | g <;> omega
    have hk : Hg.kind (0xAC00 + (21 * (a - 0x1100) + b - 0x1161) * 28) = 4 := Hg.kind4 (by omega) (by omega)
    refine ⟨?_, by omega, by omega, by omega⟩
    conv => rhs; unfold Hg.decomp
    rw [if_pos (by omega), if_pos (by omega)]
    unfold Hg.decomp
    rw [if_neg (by omega), if_pos (by omega)]
    have e1 : 0x1100 + (0xAC00 + (21 * (a - 0x1100) + b - 0x1161) * 28 - 0xAC00) / 28 / 21 = a := by omega
    have e2 : 0x1161 + (0xAC00 + (21 * (a - 0x1100) + b - 0x1161) * 28 - 0xAC00) / 28 % 21 = b := by omega
    rw [e1, e2]
    rfl
  · rw [if_neg h1] at h ⊢
    by_cases h2 : Hg.kind a = 4 ∧ Hg.kind b = 3
    · rw [if_pos h2] at h ⊢
      dsimp only
      have ra : 0xAC00 ≤ a ∧ a ≤ 0xD7A3 ∧ (a - 0xAC00) % 28 = 0 := by rcases Hg.cases6 a with g | g | g | g | g | g <;> omega
      have rb : 0x11A8 ≤ b ∧ b ≤ 0x11C2 := by rcases Hg.cases6 b with g | g | g | g | g | g <;> omega
      have hk : Hg.kind (a + b - 0x11A8 + 1) = 5 := Hg.kind5 (by omega) (by omega)
      refine ⟨?_, by omega, by omega, by omega⟩
      unfold Hg.decomp
      rw [if_neg (by omega), if_neg (by omega), if_neg (by omega), if_pos (by omega), if_pos (by omega)]
      have e1 : 0x1100 + (a + b - 0x11A8 + 1 - 0xAC00) / 28 / 21 = 0x1100 + (a - 0xAC00) / 28 / 21 := by omega
      have e2 : 0x1161 + (a + b - 0x11A8 + 1 - 0xAC00) / 28 % 21 = 0x1161 + (a - 0xAC00) / 28 % 21 := by omega
      have e3 : 0x11A8 + (a + b - 0x11A8 + 1 - 0xAC00) % 28 - 1 = b := by omega
      rw [e1, e2, e3]
      rfl
    · rw [if_neg h2] at h; cases h
theorem dcM_hg {ms : List Mp} (hh : NoHg ms) (compat : Bool) {e : Int} (h : 1 ≤ Hg.kind e) : dcM ms compat e = Hg.decomp e := by
  unfold dcM replE
  have : fndM ms compat e = none := fndM_none (fun i hi he => by have := hh i hi; rw [he] at this; omega)
  rw [this]
/-- decomposing a primary composite gives what its two elements give -/
theorem prN_dc {x : Nrm} (h : NOk x) {a b p : Int} (hp : prN x a b = some p) : dcM x.dec false p = dcM x.dec false a ++ dcM x.dec false b := by
  unfold prN at hp
  split at hp
  · next hc =>
    injection hp with hp
    obtain ⟨h1, h2, h3, h4⟩ := comp_decomp hc
    subst hp
    rw [dcM_hg h.hg false h2, dcM_hg h.hg false h3, dcM_hg h.hg false h4, h1]
  · obtain ⟨t, ht, h1, h2, h3, _⟩ := prM_facts hp
    refine dcM_two h.st h.hg h.en false ?_
    have := onM_frm h.st h.hg false ht
    rw [h1, if_pos (.inr h3), h2] at this
    exact this
/-- composites and what they begin with are starters -/
theorem prN_zero {x : Nrm} {a b p : Int} (hk : ∀ c, 1 ≤ Hg.kind c → clz x.cls c = 0) (hp : prN x a b = some p) : clz x.cls p = 0 := by
  unfold prN at hp
  split at hp
  · next hc => injection hp with hp; subst hp; exact hk _ (comp_decomp hc).2.2.2
  · obtain ⟨t, ht, _, _, _, h, _⟩ := prM_facts hp; exact h

/-! the list of pairs -/
def befT (x y : Int × Int × Int) : Prop := x.1 < y.1 ∨ (x.1 = y.1 ∧ x.2.1 < y.2.1)
/-- the triples of primary composites, in order -/
structure PairsOk (x : Nrm) (L : List (Int × Int × Int)) : Prop where
  asc : L.Pairwise befT
  mem : ∀ a b c, (a, b, c) ∈ L ↔ pcN x (a, b) = some c
theorem befT_irrefl (x : Int × Int × Int) : ¬ befT x x := by rintro (h | ⟨_, h⟩) <;> omega
theorem befT_trans {x y z : Int × Int × Int} (h : befT x y) (g : befT y z) : befT x z := by
  unfold befT at *
  omega
theorem asc_unique : ∀ {L M : List (Int × Int × Int)}, L.Pairwise befT → M.Pairwise befT → (∀ t, t ∈ L ↔ t ∈ M) → L = M
  | [], [], _, _, _ => rfl
  | [], y :: M, _, _, h => by have := (h y).2 (by simp); cases this
  | x :: L, [], _, _, h => by have := (h x).1 (by simp); cases this
  | x :: L, y :: M, hL, hM, h => by
    rw [List.pairwise_cons] at hL hM
    have hxy : x = y := by
      rcases List.mem_cons.1 ((h x).1 (by simp)) with e | e
      · exact e
      · rcases List.mem_cons.1 ((h y).2 (by simp)) with e' | e'
        · exact e'.symm
        · exact absurd (befT_trans (hM.1 x e) (hL.1 y e')) (befT_irrefl _)
    subst hxy
    rw [asc_unique hL.2 hM.2 (fun t => ?_)]
    have := h t
    simp only [List.mem_cons] at this
    constructor
    · intro ht
      rcases this.1 (.inr ht) with e | e
      · subst e; exact absurd (hL.1 t ht) (befT_irrefl _)
      · exact e
    · intro ht
      rcases this.2 (.inr ht) with e | e
      · subst e; exact absurd (hM.1 t ht) (befT_irrefl _)
      · exact e
theorem PairsOk.unique {x : Nrm} {L M : List (Int × Int × Int)} (h : PairsOk x L) (g : PairsOk x M) : L = M :=
  asc_unique h.asc g.asc (fun ⟨a, b, c⟩ => by rw [h.mem, g.mem])

/-! the set of second elements -/
def secR (L : List (Int × Int × Int)) : List Rg := ⟨0x1161, 0x1175⟩ :: ⟨0x11A8, 0x11C2⟩ :: L.map (fun t => ⟨t.2.1, t.2.1⟩)
theorem secR_any {L : List (Int × Int × Int)} {c : Int} : anyR (secR L) c = true ↔ (0x1161 ≤ c ∧ c ≤ 0x1175) ∨ (0x11A8 ≤ c ∧ c ≤ 0x11C2) ∨ ∃ t ∈ L, t.2.1 = c := by
  rw [anyR_iff]
  unfold secR
  constructor
  · rintro ⟨r, hr, h⟩
    rcases List.mem_cons.1 hr with rfl | hr
    · exact .inl h
    · rcases List.mem_cons.1 hr with rfl | hr
      · exact .inr (.inl h)
      · obtain ⟨t, ht, rfl⟩ := List.mem_map.1 hr
        exact .inr (.inr ⟨t, ht, by dsimp only at h; omega⟩)
  · rintro (h | h | ⟨t, ht, rfl⟩)
    · exact ⟨⟨0x1161, 0x1175⟩, List.mem_cons_self, h⟩
    · exact ⟨⟨0x11A8, 0x11C2⟩, List.mem_cons_of_mem _ List.mem_cons_self, h⟩
    · exact ⟨⟨t.2.1, t.2.1⟩, List.mem_cons_of_mem _ (List.mem_cons_of_mem _ (List.mem_map.2 ⟨t, ht, rfl⟩)), by dsimp only; omega⟩
theorem sec_same {L M : List (Int × Int × Int)} (h : ∀ t, t ∈ L ↔ t ∈ M) : canR (secR L) = canR (secR M) := by
  refine canR_unique (canR_spec _).1 fun c h1 h2 => ?_
  rw [(canR_spec _).2 c h1 h2, secR_any, secR_any]
  constructor
  · rintro (g | g | ⟨t, ht, e⟩)
    · exact .inl g
    · exact .inr (.inl g)
    · exact .inr (.inr ⟨t, (h t).1 ht, e⟩)
  · rintro (g | g | ⟨t, ht, e⟩)
    · exact .inl g
    · exact .inr (.inl g)
    · exact .inr (.inr ⟨t, (h t).2 ht, e⟩)
/-- the second element of a pair is in the set -/
theorem sec_has {x : Nrm} (h : NOk x) {L : List (Int × Int × Int)} (hL : PairsOk x L) {a b p : Int} (hp : prN x a b = some p) : hasR (canR (secR L)) b = true := by
  have hb : 0 ≤ b ∧ b ≤ 1114111 := by
    unfold prN at hp
    split at hp
    · next hc =>
      have := (comp_decomp hc).2.2.1
      rcases Hg.cases6 b with g | g | g | g | g | g <;> omega
    · obtain ⟨t, ht, _, h2, _⟩ := prM_facts hp
      exact (h.co t ht).2.2 b (by rw [h2]; simp)
  rw [hasR_any hb.1 hb.2, (canR_spec _).2 b hb.1 hb.2, secR_any]
  rw [prN_pc] at hp
  split at hp
  · next hc =>
    unfold Hg.comp at hc
    split at hc
    · next h1 => left; rcases Hg.cases6 b with g | g | g | g | g | g <;> omega
    · split at hc
      · next h1 => right; left; rcases Hg.cases6 b with g | g | g | g | g | g <;> omega
      · cases hc
  · exact .inr (.inr ⟨(a, b, p), (hL.mem a b p).2 hp, rfl⟩)
end Go.Proofs.YtjglanjfgbipmaaDoor
/- The chapter's example: what composing gives there. Plain. -/
namespace Go.Proofs.YtjglanjfgbipmaaDoor
open Go.RowKit

def exN : Nrm := ⟨[⟨0x302, 0x302, 230⟩, ⟨0x323, 0x323, 220⟩], [⟨0xE2, [0x61, 0x302], .empty⟩], []⟩
theorem ex_chk : chk exN.cls = 0 := by decide
theorem ex_map : mapErr exN.dec = 0 := by rfl
theorem ex_set : setOk exN.exc = true := by rfl
theorem ex_st : stB exN.dec = true := by rfl
theorem ex_k : exN.dec.any kindB = false := by rfl
theorem ex_d : exN.dec.any (datB exN.cls) = false := by rfl
theorem ex_e : endB exN.dec = true := by decide
theorem ex_l : longB exN.dec = false := by decide
theorem ex_err : nErr exN = 0 := by rfl
theorem ex_us : usN exN = exN := if_pos ex_err
theorem ex_pair : prN exN 0x61 0x302 = some 0xE2 := by rfl
theorem ex_t1 : Cps.text (clz exN.cls) (prN exN) [0x61, 0x323, 0x302] = [0xE2, 0x323] := by rfl
theorem ex_t2 : Cps.text (clz exN.cls) (prN exN) [0x1100, 0x1161, 0x11A8] = [0xAC01] := by rfl
theorem ex_prim : ∃ p, pcN exN p = some 0xE2 := ⟨(0x61, 0x302), by rfl⟩
theorem ex_pairs : PairsOk exN [(0x61, 0x302, 0xE2)] := by
  refine ⟨by simp, fun a b c => ?_⟩
  rw [List.mem_singleton]
  have hb : cpB exN ⟨0xE2, [0x61, 0x302], .empty⟩ = true := by rfl
  by_cases h : (a, b) = ((0x61 : Int), (0x302 : Int))
  · injection h with h1 h2
    subst h1; subst h2
    have : pcN exN (0x61, 0x302) = some 0xE2 := by rfl
    rw [this]
    constructor
    · intro e; injection e with _ e; injection e with _ e; rw [e]
    · intro e; injection e with e; rw [e]
  · have : pcN exN (a, b) = none := by
      unfold pcN pcL
      split
      · rfl
      · unfold prL
        have : List.find? (cpAt exN (a, b)) exN.dec = none := by
          rw [List.find?_eq_none]
          intro m hm
          have : m = ⟨0xE2, [0x61, 0x302], .empty⟩ := by simpa [exN] using hm
          subst this
          unfold cpAt
          rw [hb, Bool.true_and, decide_eq_true_eq]
          exact fun e => h e.symm
        rw [this]
        rfl
    rw [this]
    constructor
    · intro e; injection e with e1 e; injection e with e2 _; exact absurd (by rw [e1, e2]) h
    · intro e; cases e
end Go.Proofs.YtjglanjfgbipmaaDoor
/- The contract of decompose.measure$1, the walk. -/
namespace Go.Proofs.YtjglanjfgbipmaaDoor
open Go.RowKit Go.Maps Go.WideMaps

def SzRet (A0 : Option Addr) (n0 k0 : Nat) (A1 : Option Addr) (n1 k1 : Nat) (A2 : Option Addr) (n2 k2 : Nat) (s : Nat) (ms : List Mp) (c : Int) (w : World) (n : Nat) (mk : Int → Option Int) (cyc : Bool) (e : Ending) (w' : World) : Prop :=
  ∃ v n' mk' cyc' lng', e = .returned (.int .i64 v) ∧ SzPost A0 n0 k0 A1 n1 k1 A2 n2 k2 s ms c w n mk cyc v w' n' mk' cyc' lng'
def SizeOk (A0 : Option Addr) (n0 k0 : Nat) (A1 : Option Addr) (n1 k1 : Nat) (A2 : Option Addr) (n2 k2 : Nat) (s : Nat) (ms : List Mp) (w0 : World) (u : Nat) : Prop :=
  ∀ (c : Int) (w : World) (n : Nat) (mk : Int → Option Int) (cyc lng : Bool), 2 * unmarked (fsM ms) mk + hk c < u → 0 ≤ c ∧ c ≤ 1114111 → DInv (onM ms true) capE mxE mk cyc lng → (∀ x, mk x = some (-1) → Path (onM ms true) x c) →
    MS A0 n0 k0 A1 n1 k1 A2 n2 k2 s w n mk cyc lng → Below s w0 w → n + 200 * unmarked (fsM ms) mk + 2 * hk c ≤ 1000000000 →
    Calls Tryd.prog 55 #[.int .i64 c, .pointer (some ⟨s, 0, none⟩), .pointer (some ⟨s + 4, 0, none⟩), .pointer (some ⟨s + 1, 0, none⟩), .pointer (some ⟨s + 5, 0, none⟩), .pointer (some ⟨s + 2, 0, none⟩)] w
      (SzRet A0 n0 k0 A1 n1 k1 A2 n2 k2 s ms c w n mk cyc)

/-- what has been begun is finished: marks are only added -/
theorem DExt.finish {mk mk' : Int → Option Int} {c v : Int} (hn : mk c = none) (hv : v ≠ -1) (h : DExt (putM mk c (-1)) mk') : DExt mk (putM mk' c v) := by
  refine ⟨fun x k e => ?_, fun x e => ?_⟩
  · have hx : ¬ x = c := fun e' => by rw [e', hn] at e; cases e
    rw [putM_other _ _ hx]
    exact h.old x k (by rw [putM_other _ _ hx]; exact e)
  · by_cases hx : x = c
    · subst hx; rw [putM_same]; intro e2; injection e2 with e2; exact hv e2
    · rw [putM_other _ _ hx]; exact h.new x (by rw [putM_other _ _ hx]; exact e)
theorem DExt.way {on : Int → Option (List Int)} {mk mk' : Int → Option Int} {c e : Int} (h : DExt (putM mk c (-1)) mk') (hp : ∀ x, mk x = some (-1) → Path on x c) (he : Edge on c e) : ∀ x, mk' x = some (-1) → Path on x e := by
  intro x hx
  cases hm : putM mk c (-1) x with
  | none => exact absurd hx (h.new x hm)
  | some v =>
    have h1 := h.old x v hm
    rw [hx] at h1
    injection h1 with h1
    subst h1
    by_cases e' : x = c
    · subst e'; exact .one he
    · rw [putM_other _ _ e'] at hm; exact .more (hp x hm) he

/-- what holds in the loop over what c is replaced by -/
structure SzLoop (A0 : Option Addr) (n0 k0 : Nat) (A1 : Option Addr) (n1 k1 : Nat) (A2 : Option Addr) (n2 k2 : Nat) (s : Nat) (ms : List Mp) (c : Int) (to : List Int) (w : World) (n : Nat) (mk : Int → Option Int) (cyc : Bool) (D i : Nat) (vs : List Int) (w' : World) (n' : Nat) (mk' : Int → Option Int) (cyc' lng' : Bool) : Prop where
  le : i ≤ to.length
  ln : vs.length = i
  bd : ∀ v ∈ vs, 1 ≤ v ∧ v ≤ capE
  ext : DExt (putM mk c (-1)) mk'
  inv : DInv (onM ms true) capE mxE mk' cyc' lng'
  mon : cyc = true → cyc' = true
  sz : cyc' = false → ∀ j, (h1 : j < to.length) → (h2 : j < vs.length) → Sz (onM ms true) capE to[j] vs[j]
  st : MS A0 n0 k0 A1 n1 k1 A2 n2 k2 s w' n' mk' cyc' lng'
  kp : KeepD s w w'
  bel : Below s w w'
  pot : n' + 200 * unmarked (fsM ms) mk' ≤ n + 1 + 200 * unmarked (fsM ms) (putM mk c (-1)) + D * i
section
variable {A0 : Option Addr} {n0 k0 : Nat} {A1 : Option Addr} {n1 k1 : Nat} {A2 : Option Addr} {n2 k2 : Nat} {s : Nat} {ms : List Mp} {c : Int} {to : List Int} {w : World} {n : Nat} {mk : Int → Option Int} {cyc : Bool} {D i : Nat} {vs : List Int} {w' : World} {n' : Nat} {mk' : Int → Option Int} {cyc' lng' : Bool}
theorem capSum_bd0 {vs : List Int} (h : ∀ v ∈ vs, 1 ≤ v ∧ v ≤ capE) : 0 ≤ capSum capE vs ∧ capSum capE vs ≤ capE := by
  by_cases e : vs = []
  · subst e; simp [capSum, capE]
  · have := capSum_pos (cap := capE) (by unfold capE; omega) (fun v hv => (h v hv).1) e
    omega
/-- one more -/
theorem SzLoop.next (h : SzLoop A0 n0 k0 A1 n1 k1 A2 n2 k2 s ms c to w n mk cyc D i vs w' n' mk' cyc' lng') (hi : i < to.length) {v : Int} {w2 : World} {n2' : Nat} {mk2 : Int → Option Int} {cyc2 lng2 : Bool}
    (p : SzPost A0 n0 k0 A1 n1 k1 A2 n2 k2 s ms to[i] w' n' mk' cyc' v w2 n2' mk2 cyc2 lng2) (hD : 2 * hk to[i] ≤ D) : SzLoop A0 n0 k0 A1 n1 k1 A2 n2 k2 s ms c to w n mk cyc D (i + 1) (vs ++ [v]) w2 n2' mk2 cyc2 lng2 := by
  refine ⟨hi, by simp [h.ln], fun x hx => ?_, h.ext.trans p.ext, p.inv, fun e => p.mon (h.mon e), fun e j h1 h2 => ?_, p.st, h.kp.trans p.kp, h.bel.trans p.bel, ?_⟩
  · rcases List.mem_append.1 hx with hx | hx
    · exact h.bd x hx
    · simp at hx; subst hx; exact p.bd
  · by_cases e2 : j < vs.length
    · rw [List.getElem_append_left e2]
      refine h.sz ?_ j h1 e2
      cases hc : cyc' with
      | false => rfl
      | true => rw [p.mon hc] at e; cases e
    · have e3 : j = i := by simp at h2; have := h.ln; omega
      subst e3
      rw [List.getElem_append_right (by omega)]
      simpa [h.ln] using p.sz e
  · have h1 := h.pot
    have h2 := p.pot
    rw [Nat.mul_succ]
    omega
end

set_option maxRecDepth 100000 in
set_option maxHeartbeats 3200000 in
theorem size_step (A0 : Option Addr) (n0 k0 : Nat) (A1 : Option Addr) (k1 : Nat) (A2 : Option Addr) (n2 k2 : Nat) (s : Nat) (ms : List Mp) (w0 : World) (hs0 : s = w0.heap.size) (hA : Mps w0 A1 ms) (hst : StF ms) (hco : CodesOk ms) (hbig : ms.length ≤ 1048576) (u : Nat)
    (ih : SizeOk A0 n0 k0 A1 ms.length k1 A2 n2 k2 s ms w0 u) : SizeOk A0 n0 k0 A1 ms.length k1 A2 n2 k2 s ms w0 (u + 1) := by
  intro c w n mk cyc lng hu hc hinv hpath hms hbel hn
  have HI := Lib.hid ih; clear ih
  have ON := Lib.hid (fun W (hb : Below s w0 W) => once_any A0 n0 k0 A1 ms.length k1 A2 n2 k2 ms c true W (hA.below (hs0 ▸ hb)) rfl hbig hst)
  have KD := Lib.hid (fun to => onM_kids (ms := ms) (b := true) (c := c) (to := to) hco)
  have HV := Lib.hid hinv; have HP := Lib.hid hpath
  have q0 : w.cell? ⟨s, 0, none⟩ = some (.slice A0 n0 k0) := hms.bN.cell rfl
  have q1 : w.cell? ⟨s, 1, none⟩ = some (.slice A1 ms.length k1) := hms.bN.cell rfl
  have q2 : w.cell? ⟨s, 2, none⟩ = some (.slice A2 n2 k2) := hms.bN.cell rfl
  have HM := Lib.hid hms
  clear hinv hpath hms hst hco hs0 hA
  generalize hR : onM ms true c = R at *
  have HR := Lib.hid hR
  clear hR
  go_enter Tryd.func55, Tryd.ntmps55
  go_wp2_with fail
  with_reducible refine (ON.out _ hbel).mono ?_
  rintro e w1 ⟨E, d, rfl, hd, hE, hb1⟩
  clear ON
  have HM1 := Lib.hid (HM.out.below hb1)
  have HK1 := Lib.hid (KeepD.of_below (s := s) hb1)
  have hsw : s ≤ w.heap.size := Nat.le_of_lt HM.out.bN.lt
  have HB1 := Lib.hid (hb1.mono hsw)
  have leaf : ∀ (hl : R = none ∨ R = some []), SzRet A0 n0 k0 A1 ms.length k1 A2 n2 k2 s ms c w n mk cyc (.returned (.int .i64 1)) w1 := fun hl => by
    refine ⟨1, n, mk, cyc, lng, rfl, ⟨by unfold capE; omega, DExt.refl _, HV.out, fun h => h, fun _ => .leaf (by rw [HR.out]; exact hl), HM1.out, HK1.out, HB1.out, by omega, fun to h hne => ?_⟩⟩
    rw [HR.out] at h
    rcases hl with rfl | rfl
    · cases h
    · injection h with h; exact absurd h.symm hne
  have LF := Lib.hid leaf
  clear leaf
  cases R with
  | none =>
    go_wp2_with fail
    go_ret
    exact LF.out (by simp)
  | some to =>
    simp only [Option.getD_some, Option.isSome_some] at hd hE ⊢
    rcases to with _ | ⟨t0, tr⟩
    · go_wp2_with fail
      go_ret
      exact LF.out (by simp)
    clear LF
    generalize hto : t0 :: tr = to at *
    have hne : to ≠ [] := by rw [← hto]; simp
    have hlen : 0 < to.length := by rw [← hto]; simp
    clear hto
    have p4 : w1.cell? ⟨s + 4, 0, none⟩ = some (.map (some (s + 3))) := HM1.out.bM.cell rfl
    have hkey : iok c := iok_code hc
    have hon : onM ms true c = some to := HR.out
    have HON := Lib.hid hon
    clear hon
    cases hm : mk c with
    | some k =>
      have HMK := Lib.hid hm
      have f1 : w1.frozen? ⟨s + 1, 0, none⟩ = false := HM1.out.bC.free 0
      have q1' : w1.cell? ⟨s + 1, 0, none⟩ = some (.bool cyc) := HM1.out.bC.cell rfl
      have hkb := HV.out.bd c k hm
      have FIN := Lib.hid (fun (v : Int) (b : Bool) (hv : v = max k 1) (hb : b = (cyc || (k == -1))) => show SzRet A0 n0 k0 A1 ms.length k1 A2 n2 k2 s ms c w n mk cyc (.returned (.int .i64 v)) (w1.setCell ⟨s + 1, 0, none⟩ (.bool b)) from by
        subst hv; subst hb
        refine ⟨_, n, mk, _, lng, rfl, ⟨by unfold capE at *; omega, DExt.refl _, HV.out.meet hm (fun e => HP.out c e), fun h => by simp [h], fun h => ?_, HM1.out.setC _, HK1.out.trans (KeepD.of_grown (grown_set _ _ _) (.inl rfl)), HB1.out.setCell (by simp) _, by omega, fun _ _ _ => ⟨k, hm⟩⟩⟩
        simp only [Bool.or_eq_false_iff, beq_eq_false_iff_ne] at h
        have h1 := HV.out.fin h.1 c k hm h.2
        have h2 := h1.bd (by unfold capE; omega)
        rw [Int.max_eq_left h2.1]
        exact h1)
      have mk_at : (mk c).map (fun k => (Value.int .i64 k)) = some (.int .i64 k) := by rw [hm]; rfl
      clear hm
      cases cyc with
      | true =>
        go_wp2_with (at_lookup; refine wpList_lookOk rfl _ _ 100 rfl HM1.out.mp law_int Tryd.underlying100 (zero_intM _) rfl rfl hkey (key_int hkey) ?_; rw [mk_at]; simp only [Option.getD_some, Option.isSome_some])
        all_goals (go_ret; exact FIN.out _ _ (by omega) (by simp))
      | false =>
        by_cases hk1 : k = -1
        · subst hk1
          go_wp2_with (at_lookup; refine wpList_lookOk rfl _ _ 100 rfl HM1.out.mp law_int Tryd.underlying100 (zero_intM _) rfl rfl hkey (key_int hkey) ?_; rw [mk_at]; simp only [Option.getD_some, Option.isSome_some])
          all_goals (go_ret; exact FIN.out _ _ (by omega) (by simp))
        · have hk2 : (k == -1) = false := by simpa using hk1
          rw [hk2] at FIN
          clear hk2
          go_wp2_with (at_lookup; refine wpList_lookOk rfl _ _ 100 rfl HM1.out.mp law_int Tryd.underlying100 (zero_intM _) rfl rfl hkey (key_int hkey) ?_; rw [mk_at]; simp only [Option.getD_some, Option.isSome_some])
          all_goals (go_ret; exact FIN.out _ _ (by omega) (by simp [hk1]))
    | none =>
      have mk_at : (mk c).map (fun k => (Value.int .i64 k)) = none := by rw [hm]; rfl
      go_wp2_with first
        | (at_lookup; refine wpList_lookOk rfl _ _ 100 rfl HM1.out.mp law_int Tryd.underlying100 (zero_intM _) rfl rfl hkey (key_int hkey) ?_; rw [mk_at]; simp only [Option.getD_none, Option.isSome_none])
        | (at_mapUpdate; refine wpList_mput rfl _ _ _ 100 rfl HM1.out.mp law_int Tryd.underlying100 (by unfold maxLen; omega) rfl rfl rfl hkey (key_int hkey) (fun y _ e => ikey_inj e) ?_; intro w2 hM2 hg2)
      have MS2 := Lib.hid (HM1.out.put (c := c) (k := -1) hM2 hg2)
      have hb2 : Below s w w2 := below_grown HB1.out hg2 (by omega) (by have := hb1.size; omega)
      have KD2 := Lib.hid (HK1.out.trans (KeepD.of_grown hg2 (.inr (.inr rfl))))
      have INT := Lib.hid (fun (W : World) (hk : KeepD s w1 W) => HM1.out.ints hk hE)
      have K12 := Lib.hid (KeepD.of_grown (s := s) hg2 (.inr (.inr rfl)))
      clear hM2 hg2 hE mk_at p4
      obtain ⟨hl64, hcode, hdis⟩ := KD.out to rfl
      obtain ⟨D, hD1, hD2, hD3⟩ : ∃ D, (∀ e ∈ to, 2 * unmarked (fsM ms) (putM mk c (-1)) + hk e < u) ∧ (∀ e ∈ to, 2 * hk e ≤ D) ∧ n + 2 + 200 * unmarked (fsM ms) (putM mk c (-1)) + D * 64 ≤ n + 200 * unmarked (fsM ms) mk + 2 * hk c := by
        rcases hdis with ⟨g1, _, g3⟩ | ⟨g1, g2⟩
        · have hle : unmarked (fsM ms) (putM mk c (-1)) ≤ unmarked (fsM ms) mk := unmarked_le fun x e => by
            by_cases e' : x = c
            · rw [e', hm]
            · rw [putM_other _ _ e'] at e; exact e
          exact ⟨0, fun e he => by have := g3 e he; omega, fun e he => by have := g3 e he; omega, by omega⟩
        · have hlt := unmarked_put (k := -1) g2 hm
          exact ⟨2, fun e _ => by have := hk_le e; omega, fun e _ => by have := hk_le e; omega, by omega⟩
      have HD1 := Lib.hid hD1; have HD2 := Lib.hid hD2; have HD3 := Lib.hid hD3
      have HCO := Lib.hid hcode
      have HMN := Lib.hid hm
      have HN := Lib.hid hn
      have HU := Lib.hid hu
      clear hD1 hD2 hD3 hcode hdis KD hm hn hu
      go_loopw [12, 46] (fun su q wr => ∃ (i : Nat) (vs : List Int) (n' : Nat) (mk' : Int → Option Int) (cyc' lng' : Bool), su = .int .i64 (capSum capE vs) ∧ q = .int .i64 i ∧ KeepD s w1 wr ∧ SzLoop A0 n0 k0 A1 ms.length k1 A2 n2 k2 s ms c to w n mk cyc D i vs wr n' mk' cyc' lng')
        (fun _ q _ => to.length - (intOf q).toNat)
      case atStart =>
        exact ⟨0, [], n + 1, putM mk c (-1), cyc, lng, rfl, rfl, K12.out, ⟨Nat.zero_le _, rfl, fun v h => absurd h (by simp), DExt.refl _, HV.out.begin HON.out hne HMN.out (by unfold capE; omega) (by unfold mxE; omega), fun h => h, fun _ j _ h2 => by simp at h2, MS2.out, KD2.out, hb2, by simp⟩⟩
      case round =>
        obtain ⟨i, vs, n', mk', cyc', lng', rfl, rfl, hkp, HL⟩ := hrel
        have hsum : 0 ≤ capSum capE vs ∧ capSum capE vs ≤ 65 := capSum_bd0 HL.bd
        have hile := HL.le
        have HLP := Lib.hid HL
        clear HL
        by_cases hi : i < to.length
        · obtain ⟨b, o, rfl, hcell⟩ := (INT.out wr hkp).at hi
          have hc0 := hcell i hi
          clear hcell
          have p5 : wr.cell? ⟨s + 5, 0, none⟩ = some (.func (.func 55) #[] #[.pointer (some ⟨s, 0, none⟩), .pointer (some ⟨s + 4, 0, none⟩), .pointer (some ⟨s + 1, 0, none⟩), .pointer (some ⟨s + 5, 0, none⟩), .pointer (some ⟨s + 2, 0, none⟩)]) := HLP.out.st.bS.cell rfl
          have hmem : to[i] ∈ to := List.getElem_mem hi
          have CL := Lib.hid (HI.out to[i] wr n' mk' cyc' lng' (by have h1 := HD1.out _ hmem; have h2 := HLP.out.ext.unmarked (fsM ms); omega) (HCO.out _ hmem) HLP.out.inv (HLP.out.ext.way HP.out ⟨to, HON.out, hmem⟩) HLP.out.st (hbel.trans HLP.out.bel)
            (by have h1 := HLP.out.pot; have h2 := HD3.out; have h3 := HN.out; have h4 := HD2.out _ hmem; have h5 : D * i + D ≤ D * 64 := by { rw [← Nat.mul_succ]; exact Nat.mul_le_mul_left _ (by omega) }; omega))
          have NX := Lib.hid (fun (v : Int) W n2' mk2 cyc2 lng2 (p : SzPost A0 n0 k0 A1 ms.length k1 A2 n2 k2 s ms to[i] wr n' mk' cyc' v W n2' mk2 cyc2 lng2) => HLP.out.next hi p (HD2.out _ hmem))
          clear hmem
          generalize to[i] = te at *
          have CS := Lib.hid (fun v => (capSum_snoc capE vs v))
          generalize capSum capE vs = sm at *
          unfold capE at CS
          go_wp2_with fail
          with_reducible refine CL.out.mono ?_
          rintro e W ⟨v, n2', mk2, cyc2, lng2, rfl, hp⟩
          have hvb := hp.bd
          have NX2 := Lib.hid (NX.out v W n2' mk2 cyc2 lng2 hp)
          have HKK := Lib.hid (hkp.trans hp.kp)
          clear hp CL NX p5
          unfold capE at hvb
          have CV := Lib.hid (CS.out v)
          go_wp2_with fail
          all_goals
            go_roundw
            case rel => exact ⟨i + 1, vs ++ [v], n2', mk2, cyc2, lng2, by { show _ = Value.int .i64 (capSum 65 (vs ++ [v])); rw [CV.out]; congr 1; split <;> omega }, by go_num, HKK.out, NX2.out⟩
            case measure => simp [intOf]; omega
        · have hi' : i = to.length := by omega
          subst hi'
          have p4 : wr.cell? ⟨s + 4, 0, none⟩ = some (.map (some (s + 3))) := HLP.out.st.bM.cell rfl
          have hvne : vs ≠ [] := fun e => by have := HLP.out.ln; rw [e] at this; simp at this; omega
          have hpos := capSum_pos (cap := capE) (by unfold capE; omega) (fun v hv => (HLP.out.bd v hv).1) hvne
          have HZ := Lib.hid (fun (h : cyc' = false) => Sz.node (on := onM ms true) (cap := capE) HON.out hne HLP.out.ln (fun j h1 h2 => HLP.out.sz h j h1 h2))
          have hmc : mk' c = some (-1) := HLP.out.ext.old c (-1) (putM_same _ _ _)
          have hnn : n' < maxLen := by
            have h1 := HLP.out.pot; have h2 := HD3.out; have h3 := HN.out
            have h5 : D * to.length ≤ D * 64 := Nat.mul_le_mul_left _ hl64
            unfold maxLen; omega
          have POT := Lib.hid (show n' + 1 + 200 * unmarked (fsM ms) (putM mk' c (capSum capE vs)) ≤ n + 200 * unmarked (fsM ms) mk + 2 * hk c from by
            have h1 := HLP.out.pot; have h2 := HD3.out
            have h5 : D * to.length ≤ D * 64 := Nat.mul_le_mul_left _ hl64
            have h6 : unmarked (fsM ms) (putM mk' c (capSum capE vs)) ≤ unmarked (fsM ms) mk' := unmarked_le fun x e => by
              by_cases e' : x = c
              · rw [e', putM_same] at e; cases e
              · rw [putM_other _ _ e'] at e; exact e
            omega)
          have hsW : s ≤ wr.heap.size := Nat.le_of_lt HLP.out.st.bN.lt
          have FIN := Lib.hid (fun (w3 : World) (hM3 : MapI w3 (s + 3) (n' + 1) (fun y => if y = c then some (.int .i64 (capSum capE vs)) else (mk' y).map (fun k => .int .i64 k))) (hg3 : wr.grownBy w3 (some (s + 3))) (b : Bool) (hb : b = (lng' || decide (64 < capSum capE vs))) => show
            SzRet A0 n0 k0 A1 ms.length k1 A2 n2 k2 s ms c w n mk cyc (.returned (.int .i64 (capSum capE vs))) (w3.setCell ⟨s + 2, 0, none⟩ (.bool b)) from by
              subst hb
              exact ⟨capSum capE vs, n' + 1, putM mk' c (capSum capE vs), cyc', lng' || decide (64 < capSum capE vs), rfl, ⟨hpos, HLP.out.ext.finish HMN.out (by omega), HLP.out.inv.finish HON.out hne hmc hpos HZ.out (by unfold mxE; omega), HLP.out.mon, HZ.out, (HLP.out.st.put hM3 hg3).setL _,
                (HLP.out.kp.trans (KeepD.of_grown hg3 (.inr (.inr rfl)))).trans (KeepD.of_grown (grown_set _ _ _) (.inr (.inl rfl))), (below_grown HLP.out.bel hg3 (by omega) hsW).setCell (by simp) _, POT.out, fun _ _ _ => ⟨_, putM_same _ _ _⟩⟩⟩)
          have LG := Lib.hid (fun (w3 : World) (hg3 : wr.grownBy w3 (some (s + 3))) => HLP.out.st.bL.grown hg3 (by simp))
          have HMP := Lib.hid HLP.out.st.mp
          clear hpos hmc HZ POT hvne
          generalize capSum capE vs = sm at *
          generalize hl : lng' = lg at *
          clear HLP hl
          go_wp2_with (at_mapUpdate; refine wpList_mput rfl _ _ _ 100 rfl HMP.out law_int Tryd.underlying100 hnn rfl rfl rfl hkey (key_int hkey) (fun y _ e => ikey_inj e) ?_; intro w3 hM3 hg3; have f3 : w3.frozen? ⟨s + 2, 0, none⟩ = false := (LG.out w3 hg3).free 0; have q3 : w3.cell? ⟨s + 2, 0, none⟩ = some (.bool lg) := (LG.out w3 hg3).cell rfl; have FN := Lib.hid (FIN.out w3 hM3 hg3); clear hM3 hg3; cases lg)
          all_goals go_wp2_with fail
          all_goals (go_ret; exact FN.out _ (by simp))
theorem size_ok (A0 : Option Addr) (n0 k0 : Nat) (A1 : Option Addr) (k1 : Nat) (A2 : Option Addr) (n2 k2 : Nat) (s : Nat) (ms : List Mp) (w0 : World) (hs0 : s = w0.heap.size) (hA : Mps w0 A1 ms) (hst : StF ms) (hco : CodesOk ms) (hbig : ms.length ≤ 1048576) (u : Nat) :
    SizeOk A0 n0 k0 A1 ms.length k1 A2 n2 k2 s ms w0 u := by
  induction u with
  | zero => intro c w n mk cyc lng hu; omega
  | succ u ih => exact size_step A0 n0 k0 A1 k1 A2 n2 k2 s ms w0 hs0 hA hst hco hbig u ih
end Go.Proofs.YtjglanjfgbipmaaDoor
