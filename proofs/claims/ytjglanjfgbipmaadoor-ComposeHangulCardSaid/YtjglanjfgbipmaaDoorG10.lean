/- Texts that are merged into one file: FullPlain, SortPlain2, OSortPlain3. -/
import Derived.Test.YtjglanjfgbipmaaDoorG05
import Derived.Test.YtjglanjfgbipmaaDoorG09
/- Full decompositions: what replacing gives where it ends; rounds over all mappings find it. Plain. -/
namespace Go.Proofs.YtjglanjfgbipmaaDoor
open Go.RowKit

section
variable (on : Int → Option (List Int))
/-- l is what replacing gives for c -/
inductive Full : Int → List Int → Prop
  | leaf {c : Int} : on c = none → Full c [c]
  | node {c : Int} {to : List Int} {vs : List (List Int)} : on c = some to → vs.length = to.length → (∀ i, (hi : i < to.length) → (hv : i < vs.length) → Full to[i] vs[i]) → Full c vs.flatten
end
section
variable {on : Int → Option (List Int)} {cap : Int}
theorem Full.func {c : Int} {l : List Int} (h : Full on c l) : ∀ {l'}, Full on c l' → l = l' := by
  induction h with
  | leaf h =>
    intro l' h'
    cases h' with
    | leaf _ => rfl
    | node h1 _ _ => rw [h] at h1; cases h1
  | node h1 h2 _ ih =>
    intro l' h'
    cases h' with
    | leaf h => rw [h] at h1; cases h1
    | @node _ to' vs' g1 g2 g3 =>
      rw [h1] at g1
      injection g1 with g1
      subst g1
      congr 1
      refine List.ext_getElem (by omega) fun i hi hi' => ?_
      exact ih i (by omega) hi (g3 i (by omega) hi')
theorem Full.done {c : Int} {l : List Int} (h : Full on c l) : ∀ e ∈ l, on e = none := by
  induction h with
  | leaf h => intro e he; simp at he; subst he; exact h
  | node h1 h2 _ ih =>
    intro e he
    obtain ⟨v, hv, he⟩ := List.mem_flatten.1 he
    obtain ⟨i, hi, rfl⟩ := List.getElem_of_mem hv
    exact ih i (by omega) hi e he
/-- replacing gives a list of the size that is known -/
theorem Sz.full {c v : Int} (h : Sz on cap c v) (hcap : 1 ≤ cap) : ∃ l, Full on c l ∧ (v < cap → (l.length : Int) ≤ v) := by
  induction h with
  | @leaf c h =>
    rcases h with h | h
    · exact ⟨[c], .leaf h, fun _ => by simp⟩
    · exact ⟨[], by simpa using Full.node (vs := []) h rfl (fun i hi => by simp at hi), fun _ => by simp⟩
  | @node c to vs h1 h2 h3 h4 ih =>
    have hch : ∀ i : Nat, ∃ l : List Int, ∀ (hi : i < to.length) (hv : i < vs.length), Full on to[i] l ∧ (vs[i] < cap → (l.length : Int) ≤ vs[i]) := fun i => by
      by_cases hi : i < to.length
      · obtain ⟨l, g1, g2⟩ := ih i hi (by omega)
        exact ⟨l, fun _ _ => ⟨g1, g2⟩⟩
      · exact ⟨[], fun h => absurd h hi⟩
    refine ⟨((List.range to.length).map (fun i => (hch i).choose)).flatten, .node h1 (by simp) (fun i h1 h2 => ?_), fun hv => ?_⟩
    · simp only [List.getElem_map, List.getElem_range]
      exact ((hch i).choose_spec h1 (by omega)).1
    · have hpos : ∀ v ∈ vs, 0 ≤ v := fun v hv => by
        obtain ⟨i, hi, rfl⟩ := List.getElem_of_mem hv
        have := (h4 i (by omega) hi).bd hcap
        omega
      rw [capSum_eq hpos (by omega)] at hv ⊢
      have hs : vs.sum < cap := by omega
      have key : ∀ (ls : List (List Int)) (vs : List Int), ls.length = vs.length → (∀ v ∈ vs, 0 ≤ v) → vs.sum < cap → (∀ i, (h1 : i < ls.length) → (h2 : i < vs.length) → vs[i] < cap → (ls[i].length : Int) ≤ vs[i]) → (ls.flatten.length : Int) ≤ vs.sum := by
        intro ls
        induction ls with
        | nil => intro vs hl _ _ _; cases vs with | nil => simp | cons _ _ => simp at hl
        | cons l ls ihl =>
          intro vs hl hp hs hle
          cases vs with
          | nil => simp at hl
          | cons v vs =>
            rw [List.sum_cons] at hs
            have hq : 0 ≤ vs.sum := sum_nonneg (fun v hv => hp v (by simp [hv]))
            have h0 := hle 0 (by simp) (by simp) (by simp only [List.getElem_cons_zero]; omega)
            simp only [List.getElem_cons_zero] at h0
            have hv0 := hp v (by simp)
            have h1 := ihl vs (by simpa using hl) (fun v hv => hp v (by simp [hv])) (by omega) (fun i g1 g2 g3 => by
              have := hle (i + 1) (by simp; omega) (by simp; omega)
              simp only [List.getElem_cons_succ] at this
              exact this g3)
            rw [List.flatten_cons, List.length_append, List.sum_cons]
            omega
      have := key ((List.range to.length).map (fun i => (hch i).choose)) vs (by simp [h3]) hpos hs (fun i g1 g2 g3 => by
        simp only [List.getElem_map, List.getElem_range]
        simp at g1
        exact ((hch i).choose_spec g1 g2).2 g3)
      omega
end

/-! rounds over all mappings -/
def replE (fnd : Int → Option Nat) (T : List (List Int)) (e : Int) : List Int := match fnd e with | none => Hg.decomp e | some m => T.getD m []
def replL (fnd : Int → Option Nat) (T : List (List Int)) (text : List Int) : List Int := text.flatMap (replE fnd T)
def tabStep (to : Nat → List Int) (fnd : Int → Option Nat) (skip : Nat → Bool) (T : List (List Int)) (i : Nat) : List (List Int) := if skip i = true then T else T.set i (replL fnd T (to i))
def tabR (to : Nat → List Int) (fnd : Int → Option Nat) (skip : Nat → Bool) (n : Nat) : Nat → List (List Int)
  | 0 => List.replicate n []
  | r + 1 => (List.range n).foldl (tabStep to fnd skip) (tabR to fnd skip n r)
section
variable {n : Nat} {frm : Nat → Int} {to : Nat → List Int} {fnd fnd' : Int → Option Nat} {on : Int → Option (List Int)} {skip : Nat → Bool}
theorem tabStep_len (T : List (List Int)) (i : Nat) : (tabStep to fnd skip T i).length = T.length := by unfold tabStep; split <;> simp
theorem tabFold_len (s : List Nat) : ∀ T : List (List Int), (s.foldl (tabStep to fnd skip) T).length = T.length := by
  induction s with
  | nil => intro T; rfl
  | cons x s ih => intro T; exact (ih _).trans (tabStep_len T x)
/-- how the mappings and what a number is replaced by hang together -/
structure MapsF (n : Nat) (frm : Nat → Int) (to : Nat → List Int) (fnd : Int → Option Nat) (on : Int → Option (List Int)) (skip : Nat → Bool) : Prop where
  at_ : ∀ i, i < n → skip i = false → on (frm i) = some (to i)
  fd : ∀ e m, fnd e = some m → m < n ∧ frm m = e ∧ skip m = false
  no : ∀ e, fnd e = none → Full on e (Hg.decomp e)
theorem flatten_map {l : List Int} {f : Int → List Int} : (l.map f).flatten = l.flatMap f := by rw [List.flatMap_def]
/-- where it is known that replacing ends, the list is right -/
theorem tab_sound (M : MapsF n frm to fnd on skip) (hsub : ∀ e m, fnd e = some m → fnd' e = some m) (s : List Nat) (hs : ∀ i ∈ s, i < n) :
    ∀ i, i < n → skip i = false → (s.foldl (endStep to fnd') (List.replicate n false)).getD i false = true → Full on (frm i) ((s.foldl (tabStep to fnd skip) (List.replicate n [])).getD i []) := by
  have hlenE : ∀ s : List Nat, (s.foldl (endStep to fnd') (List.replicate n false)).length = n := by
    intro s
    have : ∀ (s : List Nat) (T : List Bool), T.length = n → (s.foldl (endStep to fnd') T).length = n := by
      intro s
      induction s with
      | nil => intro T h; exact h
      | cons x s ih => intro T h; exact ih _ (by simp [endStep, h])
    exact this s _ (by simp)
  have key : ∀ k (s : List Nat), s.length = k → (∀ i ∈ s, i < n) → ∀ i, i < n → skip i = false → (s.foldl (endStep to fnd') (List.replicate n false)).getD i false = true → Full on (frm i) ((s.foldl (tabStep to fnd skip) (List.replicate n [])).getD i []) := by
    intro k
    induction k with
    | zero =>
      intro s hk _ i hi _ h
      have : s = [] := List.eq_nil_of_length_eq_zero hk
      subst this
      simp [List.getD, hi] at h
    | succ k ih =>
      intro s hk hs i hi hsk h
      obtain ⟨s', x, rfl⟩ : ∃ s' x, s = s' ++ [x] := ⟨s.dropLast, s.getLast (by rintro rfl; simp at hk), (List.dropLast_concat_getLast _).symm⟩
      have hs' : ∀ i ∈ s', i < n := fun j hj => hs j (by simp [hj])
      have hx : x < n := hs x (by simp)
      have IH := ih s' (by simpa using hk) hs'
      rw [List.foldl_append] at h ⊢
      simp only [List.foldl_cons, List.foldl_nil] at h ⊢
      have l1 := hlenE s'
      have l2 : (s'.foldl (tabStep to fnd skip) (List.replicate n [])).length = n := by rw [tabFold_len]; simp
      generalize s'.foldl (endStep to fnd') (List.replicate n false) = T at *
      generalize s'.foldl (tabStep to fnd skip) (List.replicate n []) = L at *
      by_cases e : x = i
      · subst e
        have hT : endE to fnd' T x = true := by
          simpa [endStep, List.getD, l1, hi] using h
        have hL : (tabStep to fnd skip L x).getD x [] = replL fnd L (to x) := by
          unfold tabStep
          rw [if_neg (by rw [hsk]; simp)]
          simp [List.getD, l2, hi]
        rw [hL]
        have hch : ∀ e ∈ to x, Full on e (replE fnd L e) := fun e he => by
          unfold replE
          cases hf : fnd e with
          | none => exact M.no e hf
          | some m =>
            obtain ⟨hm, hfm, hkm⟩ := M.fd e m hf
            have := List.all_eq_true.1 hT e he
            rw [hsub e m hf] at this
            have h1 := IH m hm hkm this
            rw [hfm] at h1
            exact h1
        unfold replL
        rw [← flatten_map]
        refine .node (M.at_ x hi hsk) (by simp) (fun j hj hv => ?_)
        simp only [List.getElem_map]
        exact hch _ (List.getElem_mem hj)
      · have hT : T.getD i false = true := by
          simpa [endStep, List.getD, List.getElem?_set, e] using h
        have h1 := IH i hi hsk hT
        have : (tabStep to fnd skip L x).getD i [] = L.getD i [] := by
          unfold tabStep
          split
          · rfl
          · simp [List.getD, e]
        rw [this]
        exact h1
  exact key s.length s rfl hs
/-- no list is ever longer than the one that is right -/
theorem tab_le (M : MapsF n frm to fnd on skip) (s : List Nat) (hs : ∀ i ∈ s, i < n) : ∀ (T : List (List Int)), T.length = n → (∀ i l, i < n → skip i = false → Full on (frm i) l → (T.getD i []).length ≤ l.length) →
    ∀ i l, i < n → skip i = false → Full on (frm i) l → ((s.foldl (tabStep to fnd skip) T).getD i []).length ≤ l.length := by
  induction s with
  | nil => intro T _ h; exact h
  | cons x s ih =>
    intro T hl h
    rw [List.foldl_cons]
    refine ih (fun i hi => hs i (by simp [hi])) _ (by rw [tabStep_len, hl]) (fun i l hi hsk hf => ?_)
    have hx := hs x (by simp)
    by_cases e : x = i
    · subst e
      have hL : (tabStep to fnd skip T x).getD x [] = replL fnd T (to x) := by
        unfold tabStep
        rw [if_neg (by rw [hsk]; simp)]
        simp [List.getD, hl, hi]
      rw [hL]
      cases hf with
      | leaf g => rw [M.at_ x hi hsk] at g; cases g
      | @node _ to' vs g1 g2 g3 =>
        rw [M.at_ x hi hsk] at g1
        injection g1 with g1
        subst g1
        have key : ∀ (to : List Int) (vs : List (List Int)), vs.length = to.length → (∀ i, (hi : i < to.length) → (hv : i < vs.length) → Full on to[i] vs[i]) → (replL fnd T to).length ≤ vs.flatten.length := by
          intro to
          induction to with
          | nil => intro vs _ _; simp [replL]
          | cons e to iht =>
            intro vs hvl hv
            cases vs with
            | nil => simp at hvl
            | cons v vs =>
              have h1 := iht vs (by simpa using hvl) (fun i g1 g2 => by have := hv (i + 1) (by simp; omega) (by simp; omega); simpa using this)
              have h0 := hv 0 (by simp) (by simp)
              simp only [List.getElem_cons_zero] at h0
              have h2 : (replE fnd T e).length ≤ v.length := by
                unfold replE
                cases hfe : fnd e with
                | none => rw [(M.no e hfe).func h0]; exact Nat.le_refl _
                | some m =>
                  obtain ⟨hm, hfm, hkm⟩ := M.fd e m hfe
                  exact h m v hm hkm (by rw [hfm]; exact h0)
              unfold replL at h1 ⊢
              rw [List.flatMap_cons, List.length_append, List.flatten_cons, List.length_append]
              omega
        exact key _ _ g2 g3
    · have : (tabStep to fnd skip T x).getD i [] = T.getD i [] := by
        unfold tabStep
        split
        · rfl
        · simp [List.getD, e]
      rw [this]
      exact h i l hi hsk hf
end

/-! at the mappings of data -/
def tabM (ms : List Mp) (compat : Bool) : List (List Int) := tabR (toM ms) (fndM ms compat) (skipM ms compat) ms.length ms.length
/-- the full decomposition of a number -/
def dcM (ms : List Mp) (compat : Bool) (c : Int) : List Int := replE (fndM ms compat) (tabM ms compat) c
section
variable {ms : List Mp}
theorem Full_no (hh : NoHg ms) (compat : Bool) {e : Int} (h : fndM ms compat e = none) : Full (onM ms compat) e (Hg.decomp e) := by
  by_cases h4 : 4 ≤ Hg.kind e
  · obtain ⟨d1, d2⟩ := decomp_kids h4
    have hon : onM ms compat e = some (Hg.decomp e) := if_pos h4
    have := Full.node (on := onM ms compat) (vs := (Hg.decomp e).map (fun x => [x])) hon (by simp) (fun i h1 h2 => by
      simp only [List.getElem_map]
      obtain ⟨_, g2, g3⟩ := d2 _ (List.getElem_mem h1)
      refine .leaf (onM_none_kind hh compat g3 ?_)
      unfold hk at g2
      split at g2
      · cases g2
      · omega)
    have e1 : ((Hg.decomp e).map (fun x => [x])).flatten = Hg.decomp e := by rw [← List.flatMap_def]; simp
    rw [e1] at this
    exact this
  · rw [decomp_no (by omega)]
    refine .leaf ?_
    unfold onM
    rw [if_neg h4, h]
    rfl
theorem mapsF (hs : StF ms) (hh : NoHg ms) (compat : Bool) : MapsF ms.length (frmM ms) (toM ms) (fndM ms compat) (onM ms compat) (skipM ms compat) := by
  refine ⟨fun i hi hk => ?_, fun e m h => ?_, fun e h => Full_no hh compat h⟩
  · rw [frmM_at hi, onM_frm hs hh compat hi, toM_at hi, if_pos]
    unfold skipM at hk
    cases compat <;> simp_all [List.getD]
  · obtain ⟨hi, h1, h2⟩ := fndM_at h
    refine ⟨hi, by rw [frmM_at hi]; exact h1, ?_⟩
    unfold skipM
    rcases h2 with h2 | h2
    · rw [h2]; rfl
    · simp [List.getD, hi, h2]
theorem all_full (hs : StF ms) (hh : NoHg ms) (he : endB ms = true) (hl : longB ms = false) (compat : Bool) : ∀ i, i < ms.length → ∃ l, Full (onM ms compat) (frmM ms i) l ∧ l.length ≤ 64 := by
  intro i hi
  have h1 := lensM_ok hs hh he compat i hi
  have hle : (lensM ms compat).getD i 0 ≤ 64 := by
    unfold longB at hl
    have := List.any_eq_false.1 hl i (List.mem_range.2 hi)
    simp at this
    cases compat
    · simpa using this.1
    · simpa using this.2
  obtain ⟨l, g1, g2⟩ := h1.full (by unfold capE; omega)
  rw [frmM_at hi]
  refine ⟨l, g1, ?_⟩
  have := g2 (by unfold capE; omega)
  omega
theorem tabR_len (to : Nat → List Int) (fnd : Int → Option Nat) (skip : Nat → Bool) (n r : Nat) : (tabR to fnd skip n r).length = n := by
  induction r with
  | zero => simp [tabR]
  | succ r ih => rw [tabR, tabFold_len, ih]
/-- the lists of a table that grows: right ones are not shorter -/
def TabLe (ms : List Mp) (compat : Bool) (T : List (List Int)) : Prop := T.length = ms.length ∧ ∀ i l, i < ms.length → skipM ms compat i = false → Full (onM ms compat) (frmM ms i) l → (T.getD i []).length ≤ l.length
theorem TabLe.start (ms : List Mp) (compat : Bool) : TabLe ms compat (List.replicate ms.length []) := ⟨by simp, fun i l hi _ _ => by simp [List.getD, hi]⟩
theorem TabLe.step (hs : StF ms) (hh : NoHg ms) {compat : Bool} {T : List (List Int)} (h : TabLe ms compat T) {i : Nat} (hi : i < ms.length) : TabLe ms compat (tabStep (toM ms) (fndM ms compat) (skipM ms compat) T i) :=
  ⟨by rw [tabStep_len]; exact h.1, tab_le (mapsF hs hh compat) [i] (fun j hj => by simp at hj; subst hj; exact hi) T h.1 h.2⟩
theorem TabLe.fold (hs : StF ms) (hh : NoHg ms) {compat : Bool} (s : List Nat) : ∀ {T : List (List Int)}, TabLe ms compat T → (∀ i ∈ s, i < ms.length) → TabLe ms compat (s.foldl (tabStep (toM ms) (fndM ms compat) (skipM ms compat)) T) := by
  induction s with
  | nil => intro T h _; exact h
  | cons x s ih => intro T h hx; exact ih (h.step hs hh (hx x (by simp))) (fun i hi => hx i (by simp [hi]))
theorem TabLe.rounds (hs : StF ms) (hh : NoHg ms) (compat : Bool) (r : Nat) : TabLe ms compat (tabR (toM ms) (fndM ms compat) (skipM ms compat) ms.length r) := by
  induction r with
  | zero => exact TabLe.start ms compat
  | succ r ih => exact ih.fold hs hh _ (fun i hi => List.mem_range.1 hi)
/-- skipped mappings have empty lists -/
def TabSk (ms : List Mp) (compat : Bool) (T : List (List Int)) : Prop := ∀ i, skipM ms compat i = true → T.getD i [] = []
theorem TabSk.step {compat : Bool} {T : List (List Int)} (h : TabSk ms compat T) (i : Nat) : TabSk ms compat (tabStep (toM ms) (fndM ms compat) (skipM ms compat) T i) := by
  intro j hj
  unfold tabStep
  split
  · exact h j hj
  · next hi =>
    have : i ≠ j := fun e => by subst e; exact hi hj
    have := h j hj
    simp_all [List.getD]
/-- at most 64 elements -/
theorem TabLe.le64 (hs : StF ms) (hh : NoHg ms) (he : endB ms = true) (hl : longB ms = false) {compat : Bool} {T : List (List Int)} (h : TabLe ms compat T) {i : Nat} (hi : i < ms.length) (hk : skipM ms compat i = false) : (T.getD i []).length ≤ 64 := by
  obtain ⟨l, h1, h2⟩ := all_full hs hh he hl compat i hi
  have := h.2 i l hi hk h1
  omega
theorem tabM_full (hs : StF ms) (hh : NoHg ms) (he : endB ms = true) (compat : Bool) {i : Nat} (hi : i < ms.length) (hk : skipM ms compat i = false) : Full (onM ms compat) ms[i].frm ((tabM ms compat).getD i []) := by
  have hfl : ∀ j ∈ (List.replicate ms.length (List.range ms.length)).flatten, j < ms.length := fun j hj => by
    obtain ⟨l, h1, h2⟩ := List.mem_flatten.1 hj
    rw [List.eq_of_mem_replicate h1] at h2
    exact List.mem_range.1 h2
  have h0 := tab_sound (mapsF hs hh compat) (fndM_sub hs compat) (List.replicate ms.length (List.range ms.length)).flatten hfl i hi hk
  have e1 := iter_flat (endStep (toM ms) (fndM ms true)) ms.length (rnds ms.length (toM ms) (fndM ms true)) (fun _ => rfl) ms.length
  have e2 := iter_flat (tabStep (toM ms) (fndM ms compat) (skipM ms compat)) ms.length (tabR (toM ms) (fndM ms compat) (skipM ms compat) ms.length) (fun _ => rfl) ms.length
  simp only [rnds, tabR] at e1 e2
  rw [e1, e2] at h0
  have hl := (rnds_ok ms.length (toM ms) (fndM ms true) ms.length).1
  have : (rnds ms.length (toM ms) (fndM ms true) ms.length).getD i false = true := by
    unfold endB at he
    have hi' : i < (rnds ms.length (toM ms) (fndM ms true) ms.length).length := by rw [hl]; exact hi
    have := List.all_eq_true.1 he _ (List.getElem_mem hi')
    simpa [List.getD, hi'] using this
  have h1 := h0 this
  rw [frmM_at hi] at h1
  exact h1
/-- dcM is the full decomposition -/
theorem dcM_full (hs : StF ms) (hh : NoHg ms) (he : endB ms = true) (compat : Bool) (c : Int) : Full (onM ms compat) c (dcM ms compat c) := by
  unfold dcM replE
  cases hf : fndM ms compat c with
  | none => exact Full_no hh compat hf
  | some m =>
    obtain ⟨hm, h1, _⟩ := fndM_at hf
    have hk := ((mapsF hs hh compat).fd c m hf).2.2
    have := tabM_full hs hh he compat hm hk
    rw [h1] at this
    exact this
theorem dcM_len (hs : StF ms) (hh : NoHg ms) (he : endB ms = true) (hl : longB ms = false) (compat : Bool) (c : Int) : (dcM ms compat c).length ≤ 64 := by
  unfold dcM replE
  cases hf : fndM ms compat c with
  | none =>
    by_cases h4 : 4 ≤ Hg.kind c
    · have := (decomp_kids h4).1; dsimp only; omega
    · dsimp only; rw [decomp_no (by omega)]; simp
  | some m =>
    obtain ⟨hm, h1, _⟩ := fndM_at hf
    have hk := ((mapsF hs hh compat).fd c m hf).2.2
    exact (TabLe.rounds hs hh compat ms.length).le64 hs hh he hl hm hk
theorem dcM_elem (hs : StF ms) (hh : NoHg ms) (he : endB ms = true) (compat : Bool) {c e : Int} (h : e ∈ dcM ms compat c) : dcM ms compat e = [e] :=
  (dcM_full hs hh he compat e).func (.leaf ((dcM_full hs hh he compat c).done e h))
theorem dcM_two (hs : StF ms) (hh : NoHg ms) (he : endB ms = true) (compat : Bool) {p a b : Int} (h : onM ms compat p = some [a, b]) : dcM ms compat p = dcM ms compat a ++ dcM ms compat b := by
  have h1 := Full.node (on := onM ms compat) (vs := [dcM ms compat a, dcM ms compat b]) h rfl (fun i g1 g2 => by
    match i, g1 with
    | 0, _ => exact dcM_full hs hh he compat a
    | 1, _ => exact dcM_full hs hh he compat b)
  have := (dcM_full hs hh he compat p).func h1
  simpa using this
end
end Go.Proofs.YtjglanjfgbipmaaDoor
/- More plain facts about stable sorting: the search of the symmetric merge, its halves, blocks that are merged in pairs. No program in sight. -/
namespace Go.Proofs.YtjglanjfgbipmaaDoor.Srt
section
variable {α : Type} {key : α → Int}

theorem SortedOn.le {d : List α} {a b i j : Nat} (h : SortedOn key d a b) (h1 : a ≤ i) (h2 : i ≤ j) (h3 : j < b) : kf key d i ≤ kf key d j := by
  by_cases e : i = j
  · subst e; exact Int.le_refl _
  · exact h i j h1 (by omega) h3

/-- the search of the symmetric merge: s0 and r0 are where it began, st is where it ended -/
theorem found_of {d : List α} {a m b st s0 r0 : Nat} (ham : a < m) (h1 : SortedOn key d a m) (h2 : SortedOn key d m b)
    (hs : ((a + b) / 2 < m ∧ s0 = (a + b) / 2 + m - b ∧ r0 = (a + b) / 2) ∨ (m ≤ (a + b) / 2 ∧ s0 = a ∧ r0 = m))
    (hlo : s0 ≤ st) (hhi : st ≤ r0) (hyes : ∀ c, s0 ≤ c → c < st → kf key d c ≤ kf key d ((a + b) / 2 + m - 1 - c)) (hno : ∀ c, st ≤ c → c < r0 → kf key d ((a + b) / 2 + m - 1 - c) < kf key d c) :
    Found key d a m b st := by
  generalize hM : (a + b) / 2 = M at *
  have hM1 : 2 * M ≤ a + b := by omega
  have hM2 : a + b ≤ 2 * M + 1 := by omega
  have e1 : a ≤ st := by omega
  have e2 : st ≤ m := by omega
  have e3 : st ≤ M := by omega
  have e4 : M + m - st ≤ b := by omega
  refine ⟨e1, e2, ?_, ?_, ?_, ?_, ?_⟩
  · rw [hM]; omega
  · rw [hM]; exact e4
  · rw [hM]; exact e3
  · intro i j g1 g2 g3 g4
    rw [hM] at g3
    by_cases e : s0 < st
    · have k1 := hyes (st - 1) (by omega) (by omega)
      rw [show M + m - 1 - (st - 1) = M + m - st by omega] at k1
      have k2 := h1.le (i := i) (j := st - 1) g1 (by omega) (by omega)
      have k3 := h2.le (i := M + m - st) (j := j) (by omega) g3 g4
      omega
    · omega
  · intro i j g1 g2 g3 g4
    rw [hM] at g4
    by_cases e : st < r0
    · have k1 := hno st (Nat.le_refl _) e
      have k2 := h1.le (i := st) (j := i) e1 g1 g2
      have k3 := h2.le (i := j) (j := M + m - 1 - st) g3 (by omega) (by omega)
      omega
    · omega

theorem rot_triv {d : List α} {a m b : Nat} (h1 : a ≤ m) (h2 : m ≤ b) (h : a = m ∨ m = b) : Rot d d a m b := by
  refine ⟨rfl, fun t => ?_⟩
  (repeat' split) <;> first | rfl | (congr 1; omega)

/-- elements of a segment come from the segment -/
theorem seg_mem {d d' : List α} {a b : Nat} (hs : Same d d' a b) (ht : St key d d') (hab : a ≤ b) (hb : b ≤ d.length) {i : Nat} (h1 : a ≤ i) (h2 : i < b) :
    ∃ i', a ≤ i' ∧ i' < b ∧ d'[i]? = d[i']? := by
  have p1 := parts d a a b (Nat.le_refl _) hab
  have p2 := parts d' a a b (Nat.le_refl _) hab
  simp only [Nat.sub_self, List.take_zero, List.nil_append] at p1 p2
  have t1 : d'.take a = d.take a := by
    apply List.ext_getElem?
    intro t
    simp only [List.getElem?_take]
    split
    · exact hs.2 t (by omega)
    · rfl
  have t2 : d'.drop b = d.drop b := by
    apply List.ext_getElem?
    intro t
    simp only [List.getElem?_drop]
    exact hs.2 _ (by omega)
  rw [t1, t2] at p2
  have hlen : i < d'.length := by rw [hs.1]; omega
  obtain ⟨x, hx⟩ : ∃ x, d'[i]? = some x := ⟨_, List.getElem?_eq_getElem hlen⟩
  have hf := ht (key x)
  rw [p1, p2] at hf
  simp only [List.filter_append, List.append_assoc, List.append_cancel_left_eq, List.append_cancel_right_eq] at hf
  have hmem : x ∈ ((d'.drop a).take (b - a)).filter (fun y => key y == key x) := by
    rw [List.mem_filter]
    refine ⟨?_, by simp⟩
    rw [List.mem_iff_getElem?]
    refine ⟨i - a, ?_⟩
    rw [List.getElem?_take, if_pos (by omega), List.getElem?_drop, show a + (i - a) = i by omega, hx]
  rw [hf, List.mem_filter] at hmem
  obtain ⟨q, hq⟩ := List.mem_iff_getElem?.1 hmem.1
  rw [List.getElem?_take] at hq
  split at hq
  · rw [List.getElem?_drop] at hq
    exact ⟨a + q, by omega, by omega, by rw [hx, hq]⟩
  · cases hq

theorem seg_kf {d d' : List α} {a b : Nat} (hs : Same d d' a b) (ht : St key d d') (hab : a ≤ b) (hb : b ≤ d.length) {i : Nat} (h1 : a ≤ i) (h2 : i < b) :
    ∃ i', a ≤ i' ∧ i' < b ∧ kf key d' i = kf key d i' := by
  obtain ⟨i', g1, g2, g3⟩ := seg_mem hs ht hab hb h1 h2
  exact ⟨i', g1, g2, by unfold kf; rw [g3]⟩

theorem Done.refl_of {d : List α} {a b : Nat} (h : SortedOn key d a b) : Done key d d a b := ⟨Same.refl _ _ _, St.refl _, h⟩

/-- the left half after the first recursion -/
theorem left_done {d1 d2 : List α} {a st M : Nat} (h1 : SortedOn key d1 a st) (h2 : SortedOn key d1 st M) (g1 : a < st ∧ st < M → Done key d1 d2 a M) (g2 : ¬ (a < st ∧ st < M) → d2 = d1) (hast : a ≤ st) (hstM : st ≤ M) : Done key d1 d2 a M := by
  by_cases h : a < st ∧ st < M
  · exact g1 h
  · rw [g2 h]
    refine Done.refl_of ?_
    by_cases e : a = st
    · subst e; exact h2
    · obtain rfl : st = M := by omega
      exact h1

/-- both halves sorted, nothing in the left one greater than anything in the right one: all sorted -/
theorem both_done {d d1 d2 d3 : List α} {a M b : Nat} (haM : a ≤ M) (hMb : M ≤ b) (hb : b ≤ d.length) (h0 : Same d d1 a b) (t0 : St key d d1)
    (hx : ∀ i j, a ≤ i → i < M → M ≤ j → j < b → kf key d1 i ≤ kf key d1 j) (hl : Done key d1 d2 a M) (hr : Done key d2 d3 M b) : Done key d d3 a b := by
  refine ⟨(h0.trans (hl.1.mono (Nat.le_refl _) hMb)).trans (hr.1.mono haM (Nat.le_refl _)), (t0.trans hl.2.1).trans hr.2.1, ?_⟩
  refine SortedOn.join (hl.2.2.same hr.1 (.inl (Nat.le_refl _))) hr.2.2 ?_
  intro i j g1 g2 g3 g4
  rw [hr.1.kf (t := i) (by omega)]
  obtain ⟨i', a1, a2, a3⟩ := seg_kf hl.1 hl.2.1 haM (by rw [h0.1]; omega) g1 g2
  obtain ⟨j', b1, b2, b3⟩ := seg_kf hr.1 hr.2.1 hMb (by rw [hl.1.1, h0.1]; omega) g3 g4
  rw [a3, b3, hl.1.kf (t := j') (by omega)]
  exact hx i' j' a1 a2 b1 b2

/-- blocks of a size are sorted, from a place on, up to n -/
def Bl (key : α → Int) (d : List α) (bs s n : Nat) : Prop := ∀ r, SortedOn key d (s + r * bs) (min (s + (r + 1) * bs) n)

theorem Bl.first {d : List α} {bs s n : Nat} (h : Bl key d bs s n) : SortedOn key d s (min (s + bs) n) := by
  have := h 0
  simpa using this
theorem Bl.next {d : List α} {bs s n : Nat} (h : Bl key d bs s n) : Bl key d bs (s + bs) n := by
  intro r
  have := h (r + 1)
  rw [show s + bs + r * bs = s + (r + 1) * bs by rw [Nat.add_mul]; omega, show s + bs + (r + 1) * bs = s + (r + 1 + 1) * bs by rw [Nat.add_mul (r + 1)]; omega]
  exact this
theorem Bl.same {d d' : List α} {bs s n x y : Nat} (h : Bl key d bs s n) (hs : Same d d' x y) (hd : y ≤ s) : Bl key d' bs s n := fun r => (h r).same hs (.inr (by omega))
theorem Bl.all {d : List α} {bs n : Nat} (h : Bl key d bs 0 n) (hn : n ≤ bs) : SortedOn key d 0 n := by
  have := h.first
  rw [Nat.zero_add, Nat.min_eq_right hn] at this
  exact this

/-- the blocks in front of a place are sorted -/
def Pf (key : α → Int) (d : List α) (bs q : Nat) : Prop := ∀ r, r < q → SortedOn key d (r * bs) (r * bs + bs)

theorem Pf.zero {d : List α} {bs : Nat} : Pf key d bs 0 := fun r h => by omega
theorem Pf.succ {d d' : List α} {bs q : Nat} (h : Pf key d bs q) (hs : Same d d' (q * bs) (q * bs + bs)) (hn : SortedOn key d' (q * bs) (q * bs + bs)) : Pf key d' bs (q + 1) := by
  intro r hr
  by_cases e : r = q
  · subst e; exact hn
  · refine (h r (by omega)).same hs (.inl ?_)
    have := Nat.mul_le_mul_right bs (show r + 1 ≤ q by omega)
    rw [Nat.add_mul] at this; omega

/-- the whole: the blocks in front, then a last one that may be short -/
theorem Bl.of_pf {d d' : List α} {bs q n : Nat} (h : Pf key d bs q) (hq : q * bs ≤ n) (hn : n < q * bs + bs) (hs : Same d d' (q * bs) n) (hl : SortedOn key d' (q * bs) n) : Bl key d' bs 0 n := by
  intro r
  rw [Nat.zero_add, Nat.zero_add]
  by_cases e : r < q
  · have h1 := Nat.mul_le_mul_right bs (show r + 1 ≤ q by omega)
    rw [Nat.min_eq_left (by omega), Nat.add_mul]
    rw [Nat.add_mul] at h1
    rw [Nat.one_mul]
    exact (h r e).same hs (.inl (by omega))
  · by_cases e2 : r = q
    · subst e2
      rw [Nat.min_eq_right (by rw [Nat.add_mul]; omega)]
      exact hl
    · have h1 := Nat.mul_le_mul_right bs (show q + 1 ≤ r by omega)
      rw [Nat.add_mul] at h1
      intro i j g1 g2 g3
      omega

/-- insertion moves one element over one place -/
theorem rot_snoc {d d1 : List α} {a k : Nat} {x y : α} (h : Rot d d1 a (a + 1) (k + 1)) (hak : a ≤ k) (hx : d1[k]? = some x) (hy : d1[k + 1]? = some y) : Rot d (swp d1 k (k + 1) x y) a (a + 1) (k + 2) := by
  refine ⟨(swp_len _ _ _ _ _).trans h.1, fun t => ?_⟩
  rw [swp_get d1 k (k + 1) t x y hx hy (by omega), h.2, h.2, h.2]
  (repeat' split) <;> first | rfl | omega | (congr 1; omega)

theorem rot_cons {d d1 : List α} {k m : Nat} {x y : α} (h : Rot d d1 (k + 1) m (m + 1)) (hkm : k + 1 ≤ m) (hx : d1[k]? = some x) (hy : d1[k + 1]? = some y) : Rot d (swp d1 k (k + 1) x y) k m (m + 1) := by
  refine ⟨(swp_len _ _ _ _ _).trans h.1, fun t => ?_⟩
  rw [swp_get d1 k (k + 1) t x y hx hy (by omega), h.2, h.2, h.2]
  (repeat' split) <;> first | rfl | omega | (congr 1; omega)

theorem rot_len {d d' : List α} {a m b : Nat} (h : Rot d d' a m b) : d'.length = d.length := h.1
end
end Go.Proofs.YtjglanjfgbipmaaDoor.Srt
/- Sorting range by range: what a chain of sorts of disjoint ranges leaves. Plain. -/
namespace Go.Proofs.YtjglanjfgbipmaaDoor.Srt

/-- ranges sorted one after another -/
def Stp {α : Type} (key : α → Int) : List α → List (Nat × Nat) → List α → Prop
  | d, [], d' => d' = d
  | d, r :: rs, d' => ∃ d1, Done key d d1 r.1 r.2 ∧ Stp key d1 rs d'

theorem Stp.snoc {α : Type} {key : α → Int} {d d1 d2 : List α} {rs : List (Nat × Nat)} {r : Nat × Nat} (h : Stp key d rs d1) (hd : Done key d1 d2 r.1 r.2) : Stp key d (rs ++ [r]) d2 := by
  induction rs generalizing d with
  | nil => cases h; exact ⟨d2, hd, rfl⟩
  | cons a rs ih => obtain ⟨x, h1, h2⟩ := h; exact ⟨x, h1, ih h2⟩

theorem Stp.len {α : Type} {key : α → Int} {d d1 : List α} {rs : List (Nat × Nat)} (h : Stp key d rs d1) : d1.length = d.length := by
  induction rs generalizing d with
  | nil => cases h; rfl
  | cons a rs ih => obtain ⟨x, h1, h2⟩ := h; exact (ih h2).trans h1.1.1

/-- a sort of a part, seen in the whole -/
theorem Done.lift {α : Type} {key : α → Int} {p s s' q : List α} (h : Done key s s' 0 s.length) : Done key (p ++ s ++ q) (p ++ s' ++ q) p.length (p.length + s.length) := by
  obtain ⟨⟨hl, hs⟩, ht, ho⟩ := h
  refine ⟨⟨by simp [hl], fun t ht => ?_⟩, St.append (St.append (St.refl _) ht) (St.refl _), fun i j h1 h2 h3 => ?_⟩
  · simp only [List.getElem?_append, List.length_append, hl]
    by_cases c1 : t < p.length
    · rw [if_pos (by omega), if_pos c1, if_pos (by omega), if_pos c1]
    · rw [if_neg (by omega), if_neg (by omega)]
  · have e : ∀ t, p.length ≤ t → t < p.length + s.length → kf key (p ++ s' ++ q) t = kf key s' (t - p.length) := by
      intro t g1 g2
      unfold kf
      rw [List.append_assoc, List.getElem?_append_right g1, List.getElem?_append_left (by omega)]
    rw [e i h1 (by omega), e j (by omega) h3]
    exact ho _ _ (by omega) (by omega) (by omega)

end Go.Proofs.YtjglanjfgbipmaaDoor.Srt
