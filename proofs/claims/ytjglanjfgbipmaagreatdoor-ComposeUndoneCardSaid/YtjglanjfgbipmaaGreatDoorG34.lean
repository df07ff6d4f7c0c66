/- Texts that are merged into one file: RefFull, RefText. -/
import Derived.Test.YtjglanjfgbipmaaGreatDoorG03
import Derived.Test.YtjglanjfgbipmaaGreatDoorG11
import Derived.Test.YtjglanjfgbipmaaGreatDoorG16
import Derived.Test.YtjglanjfgbipmaaGreatDoorG19
import Derived.Test.YtjglanjfgbipmaaGreatDoorG21
import Derived.Test.YtjglanjfgbipmaaGreatDoorG25
/- Contracts of the reference's replaced and table of decomposing. Written by gen_reffull.py. -/
namespace Go.Proofs.YtjglanjfgbipmaaGreatDoor
open Go.RowKit Go.Maps Go.WideMaps

/-- a slice of slices of ints -/
def RowsAt (w : World) (B : Option Addr) (T : List (List Int)) : Prop := ∃ vs : List Value, Sl w B vs ∧ vs.length = T.length ∧ ∀ i, (hi : i < T.length) → (hv : i < vs.length) → ∃ C c, vs[i] = .slice C T[i].length c ∧ T[i].length ≤ c ∧ Ints w C T[i]
theorem RowsAt.below {w w' : World} {B : Option Addr} {T : List (List Int)} (h : RowsAt w B T) (hb : Below w.heap.size w w') : RowsAt w' B T := by
  obtain ⟨vs, h1, h2, h3⟩ := h
  exact ⟨vs, h1.below hb, h2, fun i hi hv => by obtain ⟨C, c, e1, e2, e3⟩ := h3 i hi hv; exact ⟨C, c, e1, e2, e3.below hb⟩⟩
theorem RowsAt.at {w : World} {B : Option Addr} {T : List (List Int)} (h : RowsAt w B T) {m : Nat} (hm : m < T.length) : ∃ b o C c, B = some ⟨b, o, none⟩ ∧ w.cell? ⟨b, o + m, none⟩ = some (.slice C T[m].length c) ∧ T[m].length ≤ c ∧ Ints w C T[m] := by
  obtain ⟨vs, h1, h2, h3⟩ := h
  have hv : m < vs.length := by omega
  obtain ⟨C, c, e1, e2, e3⟩ := h3 m hm hv
  obtain ⟨b, o, hB, hc⟩ := h1.at hv
  exact ⟨b, o, C, c, hB, hc m _ (by rw [List.getElem?_eq_getElem hv, e1]), e2, e3⟩
/-- ints do not lie in a box without ints -/
theorem ints_off {W : World} {b i : Nat} {t : TypeId} {cs : List Value} {v : Value} {E : Option Addr} {R : List Int} (h : Ints W E R) (hX : Box W b t cs) (hv : ∀ (j : Nat) (z : Int), ¬ cs[j]? = some (Value.int .i64 z)) : Ints (W.setCell ⟨b, i, none⟩ v) E R := by
  intro hne
  obtain ⟨b', o, hA, hc⟩ := h hne
  refine ⟨b', o, hA, fun j u hu => ?_⟩
  have h1 := hc j u hu
  refine (World.cell?_setCell_far _ _ _ _ (fun e => ?_)).trans h1
  have e' : b = b' := e
  subst e'
  obtain ⟨z, rfl⟩ : ∃ z, u = .int .i64 z := by
    have hm := List.mem_of_getElem? hu
    obtain ⟨z, _, rfl⟩ := List.mem_map.1 hm
    exact ⟨z, rfl⟩
  unfold Box at hX
  simp [World.cell?, hX] at h1
  exact hv _ _ h1
/-- a box of slices of ints -/
def BoxRows (w : World) (b : Nat) (T : List (List Int)) : Prop := ∃ vs : List Value, Box w b 38 vs ∧ vs.length = T.length ∧ ∀ i, (hi : i < T.length) → (hv : i < vs.length) → ∃ C c, vs[i] = .slice C T[i].length c ∧ T[i].length ≤ c ∧ Ints w C T[i]
theorem BoxRows.rows {w : World} {b : Nat} {T : List (List Int)} (h : BoxRows w b T) : RowsAt w (some ⟨b, 0, none⟩) T := by
  obtain ⟨vs, h1, h2, h3⟩ := h
  exact ⟨vs, h1.sl, h2, h3⟩
theorem BoxRows.lt {w : World} {b : Nat} {T : List (List Int)} (h : BoxRows w b T) : b < w.heap.size := by obtain ⟨vs, h1, _⟩ := h; exact h1.lt
theorem BoxRows.below {w w' : World} {b : Nat} {T : List (List Int)} (h : BoxRows w b T) (hb : Below w.heap.size w w') : BoxRows w' b T := by
  obtain ⟨vs, h1, h2, h3⟩ := h
  exact ⟨vs, h1.below hb h1.lt, h2, fun i hi hv => by obtain ⟨C, c, e1, e2, e3⟩ := h3 i hi hv; exact ⟨C, c, e1, e2, e3.below hb⟩⟩
theorem BoxRows.set {w : World} {b : Nat} {T : List (List Int)} (h : BoxRows w b T) {i : Nat} {E : Option Addr} {l : List Int} {d : Nat} (hd : l.length ≤ d) (hE : Ints w E l) : BoxRows (w.setCell ⟨b, i, none⟩ (.slice E l.length d)) b (T.set i l) := by
  obtain ⟨vs, h1, h2, h3⟩ := h
  have hno : ∀ (j : Nat) (z : Int), ¬ vs[j]? = some (Value.int .i64 z) := by
    intro j z e
    obtain ⟨hj, e2⟩ := List.getElem?_eq_some_iff.1 e
    obtain ⟨C, c, e1, _⟩ := h3 j (by omega) hj
    rw [e1] at e2
    cases e2
  refine ⟨_, h1.set i _, by simp [h2], fun j hj hv => ?_⟩
  rw [List.getElem_set, List.getElem_set]
  by_cases hij : i = j
  · subst hij
    rw [if_pos rfl, if_pos rfl]
    exact ⟨E, d, rfl, hd, ints_off hE h1 hno⟩
  · rw [if_neg hij, if_neg hij]
    simp only [List.length_set] at hj hv
    obtain ⟨C, c, e1, e2, e3⟩ := h3 j hj hv
    exact ⟨C, c, e1, e2, ints_off e3 h1 hno⟩
theorem BoxRows.cell {w : World} {b : Nat} {T : List (List Int)} (h : BoxRows w b T) {i : Nat} (hi : i < T.length) : (∃ v, w.cell? ⟨b, i, none⟩ = some v) ∧ w.frozen? ⟨b, i, none⟩ = false := by
  obtain ⟨vs, h1, h2, h3⟩ := h
  exact ⟨⟨_, h1.cell (List.getElem?_eq_getElem (by omega))⟩, h1.free i⟩
theorem BoxRows.new (w : World) (n : Nat) : BoxRows (w.alloc (.cells (repV n (Value.slice none 0 0)).toArray 38)) w.heap.size (List.replicate n []) := by
  refine ⟨_, Box.new w 38 (repV n (Value.slice none 0 0)) rfl, by simp [repV], fun i hi hv => ⟨none, 0, ?_, ?_, ?_⟩⟩
  · simp [repV]
  · simp
  · rw [List.getElem_replicate]; exact Sl.nil _ _
theorem mk_rows (n : Nat) (hn : n ≤ 1048576) (W : World) : (Instr.makeSlice 85 (.int .i64 n) (.int .i64 n)).run Tryz.prog W = .ok (.slice (some ⟨W.heap.size, 0, none⟩) n n) (W.alloc (.cells (repV n (Value.slice none 0 0)).toArray 38)) := by
  have info_rows : (Tryz.prog.info? 38).map (fun i => (i.zero, i.size, i.bytes)) = some (some (.slice none 0 0), 1, 24) := by kernel_rfl
  obtain ⟨i, hi, hz, hsize, hbytes⟩ := info_parts info_rows
  have := run_make (P := Tryz.prog) W 85 38 i (.slice none 0 0) Tryz.underlying85 hi hz .i64 .i64 n n (by omega) (by omega) (by rw [hbytes]; omega) (by omega)
  rw [this, hsize]
  simp only [Int.toNat_natCast, Nat.mul_one, made_rep (.slice none 0 0) rfl]

section
variable {fnd : Int → Option Nat} {T : List (List Int)}
theorem replE_len (h64 : ∀ m, (hm : m < T.length) → T[m].length ≤ 64) (e : Int) : (replE fnd T e).length ≤ 64 := by
  unfold replE
  cases fnd e with
  | none => have := (dlM_bd e).2; unfold dlM at this; dsimp only; omega
  | some m =>
    dsimp only
    by_cases hm : m < T.length
    · have := h64 m hm; simpa [List.getD, hm] using this
    · simp [List.getD, Nat.le_of_not_lt hm]
theorem replL_len (h64 : ∀ m, (hm : m < T.length) → T[m].length ≤ 64) (l : List Int) : (replL fnd T l).length ≤ 64 * l.length := by
  unfold replL
  induction l with
  | nil => simp
  | cons e l ih => have := replE_len (fnd := fnd) h64 e; rw [List.flatMap_cons, List.length_append, List.length_cons]; omega
theorem replL_take {l : List Int} {i : Nat} (hi : i < l.length) : replL fnd T (l.take (i + 1)) = replL fnd T (l.take i) ++ replE fnd T l[i] := by
  unfold replL
  rw [List.take_succ_eq_append_getElem hi, List.flatMap_append]
  simp
end

set_option maxRecDepth 100000 in
set_option maxHeartbeats 3200000 in
theorem replaced_any (A1 : Option Addr) (n1 k1 : Nat) (ms : List Mp) (B : Option Addr) (nb kb : Nat) (T : List (List Int)) (A : Option Addr) (n k : Nat) (t : List Int) (compat : Bool) (w : World)
    (hM : Mps w A1 ms) (hn1 : ms.length = n1) (hz : n1 ≤ 1048576) (hT : RowsAt w B T) (hTl : T.length = ms.length) (hnb : T.length = nb) (hA : Ints w A t) (hn : t.length = n) (hbig : n ≤ 1048576) (h64 : ∀ m, (hm : m < T.length) → T[m].length ≤ 64) :
    Calls Tryz.prog 65 #[.slice A1 n1 k1, .slice B nb kb, .slice A n k, .bool compat] w (RetHg (replL (fndM ms compat) T t) w) := by
  subst hn; subst hn1; subst hnb
  have FD := Lib.hid (fun c W (hb : Below w.heap.size w W) => find_any A1 ms.length k1 ms c compat W (hM.below hb) rfl hz)
  have DC := Lib.hid (fun c W => refDecompose_any c W)
  have HF := Lib.hid (fun c => fndV_cases ms compat c)
  have HT := Lib.hid hT; have HA := Lib.hid hA
  have HRT := Lib.hid (fun i (hi : i < t.length) => replL_take (fnd := fndM ms compat) (T := T) hi)
  have HRL := Lib.hid (fun i => replL_len (fnd := fndM ms compat) h64 (t.take i))
  have HRE := Lib.hid (fun c => replE_len (fnd := fndM ms compat) h64 c)
  have HRF := Lib.hid (show replL (fndM ms compat) T (t.take t.length) = replL (fndM ms compat) T t from by rw [List.take_length])
  have HR0 := Lib.hid (show replL (fndM ms compat) T (t.take 0) = [] from rfl)
  have HEU := Lib.hid (fun c => show replE (fndM ms compat) T c = (match fndM ms compat c with | none => Hg.decomp c | some m => T.getD m []) from rfl)
  have H64 := Lib.hid h64
  have HTL := Lib.hid hTl
  have hbase : w.heap.size ≤ w.heap.size := Nat.le_refl _
  clear hM hT hA h64 hTl
  generalize replL (fndM ms compat) T = RL at *
  generalize replE (fndM ms compat) T = RE at *
  generalize fndM ms compat = FM at *
  go_enter Tryz.func65, Tryz.ntmps65
  go_wp2_with fail
  go_loopw [9, 10] (fun v u wr => ∃ (i : Nat) (S : Option Addr) (c : Nat), i ≤ t.length ∧ u = .int .i64 i ∧ v = .slice S (RL (t.take i)).length c ∧ wr.ownsRow w.heap.size 3 1 (.slice S (RL (t.take i)).length c) (RL (t.take i)).length ((RL (t.take i)).map (Value.int .i64)) ∧ Below w.heap.size w wr) (fun _ u _ => t.length - (intOf u).toNat)
  case atStart => exact ⟨0, none, 0, Nat.zero_le _, rfl, by rw [HR0.out]; rfl, by rw [HR0.out]; exact World.ownsRow_nil _ _ _ _, Below.refl _ _⟩
  case round =>
    obtain ⟨i, S, c, hi, rfl, rfl, hown, hb⟩ := hrel
    have HO := Lib.hid hown
    clear hown
    by_cases hlt : i < t.length
    · obtain ⟨b1, o1, rfl, hcell⟩ := (HA.out.below hb).at hlt
      have c0 := hcell i hlt
      have hri := HRL.out i
      rw [List.length_take] at hri
      have HTI := Lib.hid (HRT.out i hlt)
      clear hcell
      generalize t[i] = z at *
      have hez := HRE.out z
      have HEZ := Lib.hid (HEU.out z)
      have FZ := Lib.hid (FD.out z wr hb)
      generalize RE z = ez at *
      generalize hP : RL (t.take i) = P at *
      clear hP
      rcases HF.out z with ⟨h1, h2⟩ | ⟨m, hm, h1, h2⟩
      · rw [h2] at FZ
        have e0 := HEZ.out
        rw [h1] at e0
        dsimp only at e0
        have DZ := Lib.hid (DC.out z wr)
        rw [← e0] at DZ
        have d0 : decide ((0 : Int) ≤ -1) = false := by decide
        clear h1 h2 HEZ e0
        go_wp2_with fail
        with_reducible refine FZ.out.mono ?_
        rintro e W' ⟨rfl, rfl⟩
        go_wp2_with fail
        with_reducible refine DZ.out.mono ?_
        rintro e W' ⟨A3, c3, rfl, hc3, hI3, hb3⟩
        have HO3 := Lib.hid (own_keep HO.out hb3)
        have hb4 := hb.trans (hb3.mono hb.size)
        go_wp2_with (at_builtin; refine wpList_app _ _ 38 3 (.int .i64 0) 1 8 rfl rfl Tryz.underlying38 info_int rfl (by decide) (by decide) rfl HO3.out rfl hI3 (by simp) (oneCell_ints _) (by omega) hb4.size ?_; intro B9 k9 w9 hown9 hk9 hb9 hg9 hB9)
        have hb5 := hb4.trans hb9
        go_roundw
        case rel => exact ⟨i + 1, B9, k9, by omega, by go_num, by rw [HTI.out, List.length_append], by rw [HTI.out, List.length_append, List.map_append]; exact hown9, hb5⟩
        case measure => simp [intOf]; omega
      · rw [h2] at FZ
        have hmT : m < T.length := by have := HTL.out; omega
        have e0 := HEZ.out
        rw [h1] at e0
        dsimp only at e0
        have hg : T.getD m [] = T[m] := by simp [List.getD, hmT]
        rw [hg] at e0
        obtain ⟨b2, o2, C, cc, rfl, r0, hcc, hC⟩ := (HT.out.below hb).at hmT
        rw [← e0] at r0 hcc hC
        clear h1 h2 HEZ e0 hg
        go_wp2_with fail
        with_reducible refine FZ.out.mono ?_
        rintro e W' ⟨rfl, rfl⟩
        go_wp2_with (at_builtin; refine wpList_app _ _ 38 3 (.int .i64 0) 1 8 rfl rfl Tryz.underlying38 info_int rfl (by decide) (by decide) rfl HO.out rfl hC (by simp) (oneCell_ints _) (by omega) hb.size ?_; intro B9 k9 w9 hown9 hk9 hb9 hg9 hB9)
        have hb5 := hb.trans hb9
        go_roundw
        case rel => exact ⟨i + 1, B9, k9, by omega, by go_num, by rw [HTI.out, List.length_append], by rw [HTI.out, List.length_append, List.map_append]; exact hown9, hb5⟩
        case measure => simp [intOf]; omega
    · obtain rfl : i = t.length := by omega
      have e := HRF.out
      rw [e] at HO
      have hcap := own_le HO.out
      have HSL := Lib.hid (Sl.of_own HO.out)
      rw [e]
      clear e
      generalize RL t = P at *
      go_wp2_with fail
      go_ret
      exact ⟨S, c, rfl, hcap, HSL.out, hb⟩

/-- the rows of a table are returned -/
def RetRows (T : List (List Int)) (w : World) (e : Ending) (w' : World) : Prop := ∃ B c, e = .returned (.slice B T.length c) ∧ RowsAt w' B T ∧ Below w.heap.size w w'
/-- what is kept while the table grows -/
def TabOk (ms : List Mp) (compat : Bool) (T : List (List Int)) : Prop := TabLe ms compat T ∧ TabSk ms compat T
theorem TabOk.len64 {ms : List Mp} (hs : StF ms) (hh : NoHg ms) (he : endB ms = true) (hl : longB ms = false) {compat : Bool} {T : List (List Int)} (h : TabOk ms compat T) : ∀ m, (hm : m < T.length) → T[m].length ≤ 64 := by
  intro m hm
  have hg : T.getD m [] = T[m] := by simp [List.getD, hm]
  rw [← hg]
  cases hk : skipM ms compat m with
  | false => exact h.1.le64 hs hh he hl (by rw [← h.1.1]; exact hm) hk
  | true => rw [h.2 m hk]; simp
theorem TabOk.start (ms : List Mp) (compat : Bool) : TabOk ms compat (List.replicate ms.length []) := ⟨TabLe.start ms compat, fun i _ => by
  by_cases hi : i < ms.length
  · simp [List.getD, hi]
  · simp [List.getD, hi]⟩

set_option maxRecDepth 100000 in
set_option maxHeartbeats 3200000 in
theorem table_any (A : Option Addr) (n k : Nat) (ms : List Mp) (compat : Bool) (w : World) (hA : Mps w A ms) (hn : ms.length = n) (hbig : n ≤ 1048576) (hz : ∀ i, (hi : i < ms.length) → ms[i].to.length ≤ 1048576)
    (hs : StF ms) (hh : NoHg ms) (he : endB ms = true) (hl : longB ms = false) :
    Calls Tryz.prog 66 #[.slice A n k, .bool compat] w (fun e w' => TabOk ms compat (tabM ms compat) ∧ RetRows (tabM ms compat) w e w') := by
  subst hn
  have RC := Lib.hid (fun B T A2 n2 k2 l W (hb : Below w.heap.size w W) (hT : RowsAt W B T) (hok : TabOk ms compat T) (hA2 : Ints W A2 l) (hn2 : l.length = n2) (hb2 : n2 ≤ 1048576) => replaced_any A ms.length k ms B T.length T.length T A2 n2 k2 l compat W (hA.below hb) rfl hbig hT hok.1.1 rfl hA2 hn2 hb2 (hok.len64 hs hh he hl))
  have HA := Lib.hid hA
  have HZ := Lib.hid hz
  have hmk := mk_rows ms.length hbig
  have OS := Lib.hid (fun T i (h : TabOk ms compat T) (hi : i < ms.length) => (show TabOk ms compat ((tabStep (toM ms) (fndM ms compat) (skipM ms compat)) T i) from ⟨h.1.step hs hh hi, h.2.step i⟩))
  have O0 := Lib.hid (TabOk.start ms compat)
  have OL := Lib.hid (fun T (h : TabOk ms compat T) => h.1.1)
  have HSU := Lib.hid (fun T i => show (tabStep (toM ms) (fndM ms compat) (skipM ms compat)) T i = if skipM ms compat i = true then T else T.set i (replL (fndM ms compat) T (toM ms i)) from rfl)
  have HFL := Lib.hid (fun T0 i => show (List.range (i + 1)).foldl (tabStep (toM ms) (fndM ms compat) (skipM ms compat)) T0 = (tabStep (toM ms) (fndM ms compat) (skipM ms compat)) ((List.range i).foldl (tabStep (toM ms) (fndM ms compat) (skipM ms compat)) T0) i from by rw [List.range_succ, List.foldl_append]; rfl)
  have HN := Lib.hid (fun r => show tabR (toM ms) (fndM ms compat) (skipM ms compat) ms.length (r + 1) = (List.range ms.length).foldl (tabStep (toM ms) (fndM ms compat) (skipM ms compat)) (tabR (toM ms) (fndM ms compat) (skipM ms compat) ms.length r) from rfl)
  have HE := Lib.hid (show tabM ms compat = tabR (toM ms) (fndM ms compat) (skipM ms compat) ms.length ms.length from rfl)
  have H0 := Lib.hid (show tabR (toM ms) (fndM ms compat) (skipM ms compat) ms.length 0 = List.replicate ms.length [] from rfl)
  clear hA hz hs hh he hl
  generalize tabR (toM ms) (fndM ms compat) (skipM ms compat) ms.length = RN at *
  generalize tabM ms compat = RE at *
  generalize hRL : replL (fndM ms compat) = RL at *
  have BN := Lib.hid (BoxRows.new w ms.length)
  go_enter Tryz.func66, Tryz.ntmps66
  go_wp2_with fail
  have B0 : Below w.heap.size w (w.alloc (.cells (repV ms.length (Value.slice none 0 0)).toArray 38)) := (Below.refl _ _).alloc (Nat.le_refl _) _
  obtain ⟨W0, hW0⟩ : ∃ W0, (w.alloc (.cells (repV ms.length (Value.slice none 0 0)).toArray 38)) = W0 := ⟨_, rfl⟩
  rw [hW0] at B0 BN ⊢
  clear hW0 hmk
  go_loopw [6] (fun u wr => ∃ r : Nat, r ≤ ms.length ∧ u = .int .i64 r ∧ BoxRows wr w.heap.size (RN r) ∧ TabOk ms compat (RN r) ∧ Below w.heap.size w wr) (fun u _ => ms.length - (intOf u).toNat)
  case atStart => exact ⟨0, Nat.zero_le _, rfl, by rw [H0.out]; exact BN.out, by rw [H0.out]; exact O0.out, B0⟩
  case round =>
    obtain ⟨r, hr, rfl, hX, hok, hb⟩ := hrel
    have HX := Lib.hid hX; have HOK := Lib.hid hok
    clear hX BN B0 hok H0 O0
    by_cases hlt : r < ms.length
    · have HNX := Lib.hid (HN.out r)
      generalize hR1 : RN (r + 1) = R1 at *
      generalize hR0 : RN r = T0 at *
      have HR1 := Lib.hid hR1
      clear hR1 hR0
      go_wp2_with fail
      go_loopw [7] (fun u wr => ∃ (i : Nat) (T : List (List Int)), i ≤ ms.length ∧ u = .int .i64 i ∧ T = (List.range i).foldl (tabStep (toM ms) (fndM ms compat) (skipM ms compat)) T0 ∧ BoxRows wr w.heap.size T ∧ TabOk ms compat T ∧ Below w.heap.size w wr) (fun u _ => ms.length - (intOf u).toNat)
      case atStart => exact ⟨0, T0, Nat.zero_le _, rfl, rfl, HX.out, HOK.out, hb⟩
      case round =>
        clear HX hb HOK
        obtain ⟨i, T, hi, rfl, hTe, hX, hok, hb⟩ := hrel
        have HX := Lib.hid hX; have HOK := Lib.hid hok; have HTE := Lib.hid hTe
        have hTl := OL.out T hok
        clear hX hok hTe
        by_cases hlti : i < ms.length
        · obtain ⟨b1, o1, rfl, hbl, hcell⟩ := (HA.out.below hb).at hlti
          obtain ⟨C, cc, c0, c1, c2, hcc, hC⟩ := hcell i hlti
          have hzi := HZ.out i hlti
          have HT1 := Lib.hid (show (tabStep (toM ms) (fndM ms compat) (skipM ms compat)) T i = (List.range (i + 1)).foldl (tabStep (toM ms) (fndM ms compat) (skipM ms compat)) T0 from by rw [HFL.out, HTE.out])
          have HOK1 := Lib.hid (OS.out T i HOK.out hlti)
          have HSI := Lib.hid (HSU.out T i)
          have hsk : skipM ms compat i = (!compat && decide (¬ ms[i].tag.size = 0)) := by simp [skipM, List.getD, hlti]
          have hto := toM_at hlti
          rw [hsk, hto] at HSI
          generalize hT1 : (tabStep (toM ms) (fndM ms compat) (skipM ms compat)) T i = T1 at *
          clear hcell hsk hto hT1
          generalize ms[i].frm = mf at *
          generalize ms[i].to = mt at *
          generalize ms[i].tag = mg at *
          have HSKIP := Lib.hid (fun (h : compat = false) (hg : ¬ mg.size = 0) => show T1 = T from by rw [HSI.out, if_pos (by simp [h]; intro e; exact hg (by rw [e]; rfl))])
          have HSET := Lib.hid (fun (h : compat = true ∨ mg.size = 0) => show T1 = T.set i (RL T mt) from by rw [HSI.out, if_neg (by rcases h with h | h <;> simp [h])])
          have RCI := Lib.hid (RC.out (some ⟨w.heap.size, 0, none⟩) T C mt.length cc mt wr hb HX.out.rows HOK.out hC rfl hzi)
          rw [hTl] at RCI
          generalize hRM : RL T mt = rm at *
          clear hRM HSI hC
          have FIN := Lib.hid (fun (W : World) E (d : Nat) (hbw : Below wr.heap.size wr W) (hd : rm.length ≤ d) (hE : Ints W E rm) (hset : T1 = T.set i rm) => show BoxRows (W.setCell ⟨w.heap.size, i, none⟩ (.slice E rm.length d)) w.heap.size T1 from by
            rw [hset]; exact (HX.out.below hbw).set hd hE)
          by_cases hg : mg.size = 0
          · have g0 : mg.toList = [] := str_nil hg
            have hs9 := HSET.out (.inr hg)
            have HS9 := Lib.hid hs9
            clear hs9 HSET HSKIP
            have dC : (compat || true) = true := by simp
            cases compat <;> (
              go_wp2_with fail
              with_reducible refine RCI.out.mono ?_
              rintro e W2 ⟨E, d, rfl, hd, hE, hb2⟩
              have HF2 := Lib.hid (FIN.out W2 E d hb2 hd hE HS9.out)
              obtain ⟨⟨v9, e9⟩, f9⟩ := (HX.out.below hb2).cell (i := i) (by omega)
              have hb3 := (hb.trans (hb2.mono hb.size)).setCell (p := ⟨w.heap.size, i, none⟩) (Nat.le_refl _) (.slice E rm.length d)
              have hiT : i < ms.length := hlti
              clear c0 c1 c2 hE
              go_wp2_with fail
              go_roundw
              case rel => exact ⟨i + 1, T1, by omega, by go_num, HT1.out, HF2.out, HOK1.out, hb3⟩
              case measure => simp [intOf]; omega)
          · have g0 : ¬ mg.toList = [] := str_cons hg
            have g1 : mg.toList.isEmpty = false := by simpa using g0
            cases compat with
            | true =>
              have hs9 := HSET.out (.inl rfl)
              have HS9 := Lib.hid hs9
              clear hs9 HSET HSKIP
              go_wp2_with fail
              with_reducible refine RCI.out.mono ?_
              rintro e W2 ⟨E, d, rfl, hd, hE, hb2⟩
              have HF2 := Lib.hid (FIN.out W2 E d hb2 hd hE HS9.out)
              obtain ⟨⟨v9, e9⟩, f9⟩ := (HX.out.below hb2).cell (i := i) (by omega)
              have hb3 := (hb.trans (hb2.mono hb.size)).setCell (p := ⟨w.heap.size, i, none⟩) (Nat.le_refl _) (.slice E rm.length d)
              clear c0 c1 c2 hE
              go_wp2_with fail
              go_roundw
              case rel => exact ⟨i + 1, T1, by omega, by go_num, HT1.out, HF2.out, HOK1.out, hb3⟩
              case measure => simp [intOf]; omega
            | false =>
              have hs9 := HSKIP.out rfl hg
              have HX9 := Lib.hid (show BoxRows wr w.heap.size T1 from by rw [hs9]; exact HX.out)
              clear hs9 HSET HSKIP RCI FIN
              go_wp2_with fail
              go_roundw
              case rel => exact ⟨i + 1, T1, by omega, by go_num, HT1.out, HX9.out, HOK1.out, hb⟩
              case measure => simp [intOf]; omega
        · obtain rfl : i = ms.length := by omega
          go_wp2_with fail
          go_roundw
          case rel => exact ⟨r + 1, by omega, by go_num, by rw [HR1.out, HNX.out, ← HTE.out]; exact HX.out, by rw [HR1.out, HNX.out, ← HTE.out]; exact HOK.out, hb⟩
          case measure => simp [intOf]; omega
    · obtain rfl : r = ms.length := by omega
      have hE := HE.out
      have hl := OL.out _ HOK.out
      generalize RN ms.length = RR at *
      subst hE
      go_wp2_with fail
      go_ret
      exact ⟨HOK.out, some ⟨w.heap.size, 0, none⟩, ms.length, by rw [hl]; rfl, HX.out.rows, hb⟩
end Go.Proofs.YtjglanjfgbipmaaGreatDoor
/- Contracts of the reference's full and Text of decomposing. Written by gen_reftext2.py. -/
namespace Go.Proofs.YtjglanjfgbipmaaGreatDoor
open Go.RowKit Go.Maps Go.WideMaps

/-- the full decomposition of a text -/
def flM (x : Nrm) (compat : Bool) (t : List Int) : List Int := t.flatMap (dcM x.dec compat)
theorem flM_len {x : Nrm} (h : NOk x) (compat : Bool) (t : List Int) : (flM x compat t).length ≤ 64 * t.length := by
  unfold flM
  induction t with
  | nil => simp
  | cons c t ih => have := dcM_len h.st h.hg h.en h.lo compat c; rw [List.flatMap_cons, List.length_append, List.length_cons]; omega

set_option maxRecDepth 100000 in
set_option maxHeartbeats 3200000 in
theorem full_any (A0 : Option Addr) (n0 k0 : Nat) (A1 : Option Addr) (n1 k1 : Nat) (A2 : Option Addr) (n2 k2 : Nat) (x : Nrm) (A : Option Addr) (n k : Nat) (t : List Int) (compat : Bool) (w : World) (hN : NrmAt w A0 n0 A1 n1 A2 n2 x) (hz : NrmSz x) (ho : NOk x) (hA : Ints w A t) (hn : t.length = n) (hbig : n ≤ 1048576) :
    Calls Tryz.prog 45 #[.agg #[.slice A0 n0 k0, .slice A1 n1 k1, .slice A2 n2 k2], .slice A n k, .bool compat] w (RetHg (flM x compat t) w) := by
  obtain ⟨hS, hM, hR, rfl, rfl, rfl⟩ := hN
  subst hn
  have hz1 : x.dec.length ≤ 1048576 := hz.z1.n
  have B0 : Below w.heap.size w (w.alloc (.cells #[.slice A0 x.cls.length k0, .slice A1 x.dec.length k1, .slice A2 x.exc.length k2] 28)) := (Below.refl _ _).alloc (Nat.le_refl _) _
  have X0 : Box (w.alloc (.cells #[.slice A0 x.cls.length k0, .slice A1 x.dec.length k1, .slice A2 x.exc.length k2] 28)) w.heap.size 28 [.slice A0 x.cls.length k0, .slice A1 x.dec.length k1, .slice A2 x.exc.length k2] := Box.new w _ [.slice A0 x.cls.length k0, .slice A1 x.dec.length k1, .slice A2 x.exc.length k2] rfl
  have W0E : ∃ W0, (w.alloc (.cells #[.slice A0 x.cls.length k0, .slice A1 x.dec.length k1, .slice A2 x.exc.length k2] 28)) = W0 := ⟨_, rfl⟩
  have TC := Lib.hid (fun W (hb : Below w.heap.size w W) => table_any A1 x.dec.length k1 x.dec compat W (hM.below hb) rfl hz1 (fun i hi => (hz.z1.e i hi).1) ho.st ho.hg ho.en ho.lo)
  have RC := Lib.hid (fun B c T W (hb : Below w.heap.size w W) (hok : TabOk x.dec compat T) (hr : RowsAt W B T) => replaced_any A1 x.dec.length k1 x.dec B T.length c T A t.length k t compat W (hM.below hb) rfl hz1 hr hok.1.1 rfl (hA.below hb) rfl hbig (hok.len64 ho.st ho.hg ho.en ho.lo))
  have HFL := Lib.hid (show flM x compat t = replL (fndM x.dec compat) (tabM x.dec compat) t from rfl)
  clear hS hM hR hz ho hA
  generalize flM x compat t = fl at *
  go_enter Tryz.func45, Tryz.ntmps45
  go_wp2_with fail
  obtain ⟨W0, hW0⟩ := W0E
  try rw [hW0] at B0 X0 ⊢
  clear hW0
  have p1 := X0.cell (i := 1) rfl
  have SH := Lib.hid (fun W' (hb' : Below W0.heap.size W0 W') => show W'.cell? ⟨w.heap.size, 1, none⟩ = some (.slice A1 x.dec.length k1) ∧ Below W0.heap.size W0 W' from ⟨(hb'.cell X0.lt).trans p1, hb'⟩)
  have TB := Lib.hid (fun W (hb' : Below W0.heap.size W0 W) => (TC.out W (B0.trans (hb'.mono B0.size))).mono (R' := fun e W' => ∃ v, e = .returned v ∧ (W'.cell? ⟨w.heap.size, 1, none⟩ = some (.slice A1 x.dec.length k1) ∧ Below W0.heap.size W0 W') ∧ (∃ B c, v = .slice B (tabM x.dec compat).length c ∧ TabOk x.dec compat (tabM x.dec compat) ∧ RowsAt W' B (tabM x.dec compat) ∧ Below W.heap.size W W')) (fun e W' ⟨hok, B, c, he, g1, g2⟩ => ⟨_, he, SH.out W' (hb'.trans (g2.mono hb'.size)), B, c, rfl, hok, g1, g2⟩))
  have RP := Lib.hid (fun B c T W (hb' : Below W0.heap.size W0 W) hok hr => RC.out B c T W (B0.trans (hb'.mono B0.size)) hok hr)
  clear p1 TC RC X0
  generalize tabM x.dec compat = T at *
  go_wp2_with fail
  refine wp_region_held_drew (S := fun W' => W'.cell? ⟨w.heap.size, 1, none⟩ = some (.slice A1 x.dec.length k1) ∧ Below W0.heap.size W0 W') (by kernel_rfl) (SH.out _ ((Below.refl _ _).drew)) (fun hHeld => ?_)
  refine anyH_take (i := 0) (v := ?_) (some 7) rfl rfl (by kernel_rfl) (by kernel_rfl) (by kernel_rfl) (fun _ _ _ h => h) (by rfl) (by assumption) ?_ ?_
  rotate_left
  · intro w hSw; (try dsimp only at hSw); go_split_ands; go_simp; try (with_reducible rfl)
  try simp only [Act.put, List.setIfInBounds_toArray, List.set_cons_zero, List.set_cons_succ]
  refine anyH_take (i := 1) (v := ?_) (some 8) rfl rfl (by kernel_rfl) (by kernel_rfl) (by kernel_rfl) (fun _ _ _ h => h) (by rfl) (by assumption) ?_ ?_
  rotate_left
  · intro w hSw; (try dsimp only at hSw); go_split_ands; go_simp; try (with_reducible rfl)
  try simp only [Act.put, List.setIfInBounds_toArray, List.set_cons_zero, List.set_cons_succ]
  refine anyH_take (i := 2) (v := ?_) (some 9) rfl rfl (by kernel_rfl) (by kernel_rfl) (by kernel_rfl) (fun _ _ _ h => h) (by rfl) (by assumption) ?_ ?_
  rotate_left
  · intro w hSw; (try dsimp only at hSw); go_split_ands; go_simp; try (with_reducible rfl)
  try simp only [Act.put, List.setIfInBounds_toArray, List.set_cons_zero, List.set_cons_succ]
  refine anyH_take (i := 3) (v := ?_) (some 10) rfl rfl (by kernel_rfl) (by kernel_rfl) (by kernel_rfl) (fun _ _ _ h => h) (by rfl) (by assumption) ?_ ?_
  rotate_left
  · intro w hSw; (try dsimp only at hSw); go_split_ands; go_simp; try (with_reducible rfl)
  try simp only [Act.put, List.setIfInBounds_toArray, List.set_cons_zero, List.set_cons_succ]
  refine anyH_take (i := 4) (v := ?_) (some 11) rfl rfl (by kernel_rfl) (by kernel_rfl) (by kernel_rfl) (fun _ _ _ h => h) (by rfl) (by assumption) ?_ ?_
  rotate_left
  · intro w hSw; (try dsimp only at hSw); go_split_ands; go_simp; try (with_reducible rfl)
  try simp only [Act.put, List.setIfInBounds_toArray, List.set_cons_zero, List.set_cons_succ]
  refine anyH_take (i := 6) (v := ?_) (some 13) rfl rfl (by kernel_rfl) (by kernel_rfl) (by kernel_rfl) (fun _ _ _ h => h) (by rfl) (by assumption) ?_ ?_
  rotate_left
  · intro w hSw; (try dsimp only at hSw); go_split_ands; go_simp; try (with_reducible rfl)
  try simp only [Act.put, List.setIfInBounds_toArray, List.set_cons_zero, List.set_cons_succ]
  refine anyH_take (i := 7) (v := ?_) (some 14) rfl rfl (by kernel_rfl) (by kernel_rfl) (by kernel_rfl) (fun _ _ _ h => h) (by rfl) (by assumption) ?_ ?_
  rotate_left
  · intro w hSw; (try dsimp only at hSw); go_split_ands; go_simp; try (with_reducible rfl)
  try simp only [Act.put, List.setIfInBounds_toArray, List.set_cons_zero, List.set_cons_succ]
  refine anyH_callE (i := 5) (some 12) rfl rfl (by kernel_rfl) (by rfl) (by go_simp) (TB.out _ hHeld.2) ?_
  rintro _ W1 hS6 ⟨B, c, rfl, hok, hrows, hbe1⟩
  clear hHeld
  have hHeld := hS6
  clear hS6
  try simp only [Act.put, List.setIfInBounds_toArray, List.set_cons_zero, List.set_cons_succ]
  have hb1 := hHeld.2
  have KR := Lib.hid ((RP.out B c _ W1 hb1 hok hrows).mono (R' := fun e W' => ∃ v, e = .returned v ∧ (W'.cell? ⟨w.heap.size, 1, none⟩ = some (.slice A1 x.dec.length k1) ∧ Below W0.heap.size W0 W') ∧ (∃ E d, v = .slice E (replL (fndM x.dec compat) T t).length d ∧ (replL (fndM x.dec compat) T t).length ≤ d ∧ Ints W' E (replL (fndM x.dec compat) T t) ∧ Below W1.heap.size W1 W')) (fun e W' ⟨E, d, he, g1, g2, g3⟩ => ⟨_, he, SH.out W' (hb1.trans (g3.mono hb1.size)), E, d, rfl, g1, g2, g3⟩))
  refine anyH_callE (i := 8) (some 15) rfl rfl (by kernel_rfl) (by rfl) (by go_simp) (KR.out) ?_
  rintro _ W2 hS6 ⟨E, d, rfl, hd, hE, hbe2⟩
  clear hHeld
  have hHeld := hS6
  clear hS6
  try simp only [Act.put, List.setIfInBounds_toArray, List.set_cons_zero, List.set_cons_succ]
  refine anyH_take (i := 9) (v := ?_) (some 6) rfl rfl (by kernel_rfl) (by kernel_rfl) (by kernel_rfl) (fun _ _ _ h => h) (by rfl) (by assumption) ?_ ?_
  rotate_left
  · intro w hSw; (try dsimp only at hSw); go_split_ands; go_simp; try (with_reducible rfl)
  try simp only [Act.put, List.setIfInBounds_toArray, List.set_cons_zero, List.set_cons_succ]
  refine wpAnyH_done (by kernel_rfl) ?_ _
  have hb9 := B0.trans (hHeld.2.mono B0.size)
  have HE := Lib.hid hE
  obtain rfl := HFL.out
  clear hHeld SH TB RP KR hE hrows hbe1 hbe2
  go_wp2_with fail
  go_ret
  exact ⟨E, d, rfl, hd, HE.out, hb9⟩

set_option maxRecDepth 100000 in
set_option maxHeartbeats 3200000 in
theorem refDText_any (A0 : Option Addr) (n0 k0 : Nat) (A1 : Option Addr) (n1 k1 : Nat) (A2 : Option Addr) (n2 k2 : Nat) (x : Nrm) (A : Option Addr) (n k : Nat) (t : List Int) (compat : Bool) (w : World) (hN : NrmAt w A0 n0 A1 n1 A2 n2 x) (hz : NrmSz x) (hA : Ints w A t) (hn : t.length = n) (hbig : n ≤ 16384) :
    Calls Tryz.prog 21 #[.agg #[.slice A0 n0 k0, .slice A1 n1 k1, .slice A2 n2 k2], .slice A n k, .bool compat] w (RetHg (Can.srt (clz (usN x).cls) (flM (usN x) compat t)) w) := by
  subst hn
  have hB : Below w.heap.size w (w.alloc (.cells #[.slice A0 n0 k0, .slice A1 n1 k1, .slice A2 n2 k2] 28)) := (Below.refl _ _).alloc (Nat.le_refl _) _
  have hX : Box (w.alloc (.cells #[.slice A0 n0 k0, .slice A1 n1 k1, .slice A2 n2 k2] 28)) w.heap.size 28 [.slice A0 n0 k0, .slice A1 n1 k1, .slice A2 n2 k2] := Box.new w _ [.slice A0 n0 k0, .slice A1 n1 k1, .slice A2 n2 k2] rfl
  have UC := Lib.hid (refData_eq A0 n0 k0 A1 n1 k1 A2 n2 k2 x _ (hN.below hB) hz)
  obtain ⟨B0, c0, B1, c1, B2, c2, hv, hNW⟩ := usV_at hN k0 k1 k2
  rw [hv] at UC
  have HNW := Lib.hid hNW
  clear hv hNW
  have HB := Lib.hid hB
  have HX := Lib.hid hX
  have hzu := hz.us
  have hny := usN_ok x
  have HA := Lib.hid hA
  clear hN hz hB hX hA
  generalize usN x = y at *
  have FC := Lib.hid (fun W (hb : Below w.heap.size w W) => full_any B0 _ c0 B1 _ c1 B2 _ c2 y A t.length k t compat W (HNW.out W hb) hzu hny (HA.out.below hb) rfl (by omega))
  have hfl := flM_len hny compat t
  have SC := Lib.hid (fun D l m d W (hb : Below w.heap.size w W) (hD : Ints W D l) (hm : l.length = m) (hm2 : m ≤ 1048576) => refSort_any B0 y.cls.length c0 y.cls D m d l W (HNW.out W hb).s0 hD hm rfl hm2 (by have := hzu.z0; omega))
  clear hzu hny
  generalize flM y compat t = fl at *
  go_enter Tryz.func21, Tryz.ntmps21
  have g0 := HX.out.cell (i := 0) rfl
  have g1 := HX.out.cell (i := 1) rfl
  have g2 := HX.out.cell (i := 2) rfl
  go_wp2_with fail
  with_reducible refine UC.out.mono ?_
  rintro e W1 ⟨rfl, hb1⟩
  have hb := HB.out.trans (hb1.mono HB.out.size)
  clear g0 g1 g2 UC HB HX hb1
  have hal := hb.alloc hb.size (.cells #[.slice B0 y.cls.length c0, .slice B1 y.dec.length c1, .slice B2 y.exc.length c2] 28)
  have hY : Box (W1.alloc (.cells #[.slice B0 y.cls.length c0, .slice B1 y.dec.length c1, .slice B2 y.exc.length c2] 28)) W1.heap.size 28 [.slice B0 y.cls.length c0, .slice B1 y.dec.length c1, .slice B2 y.exc.length c2] := Box.new W1 _ [.slice B0 y.cls.length c0, .slice B1 y.dec.length c1, .slice B2 y.exc.length c2] rfl
  have W2E : ∃ W0, (W1.alloc (.cells #[.slice B0 y.cls.length c0, .slice B1 y.dec.length c1, .slice B2 y.exc.length c2] 28)) = W0 := ⟨_, rfl⟩
  go_wp2_with fail
  obtain ⟨W0, hW0⟩ := W2E
  try rw [hW0] at hal hY ⊢
  clear hW0 hb
  have p0 := hY.cell (i := 0) rfl
  have p1 := hY.cell (i := 1) rfl
  have p2 := hY.cell (i := 2) rfl
  have SH := Lib.hid (fun W' (hb' : Below W0.heap.size W0 W') => show W'.cell? ⟨W1.heap.size, 0, none⟩ = some (.slice B0 y.cls.length c0) ∧ W'.cell? ⟨W1.heap.size, 1, none⟩ = some (.slice B1 y.dec.length c1) ∧ W'.cell? ⟨W1.heap.size, 2, none⟩ = some (.slice B2 y.exc.length c2) ∧ Below W0.heap.size W0 W' from ⟨(hb'.cell hY.lt).trans p0, (hb'.cell hY.lt).trans p1, (hb'.cell hY.lt).trans p2, hb'⟩)
  have FB := Lib.hid (fun W (hb' : Below W0.heap.size W0 W) => (FC.out W (hal.trans (hb'.mono hal.size))).mono (R' := fun e W' => ∃ v, e = .returned v ∧ (W'.cell? ⟨W1.heap.size, 0, none⟩ = some (.slice B0 y.cls.length c0) ∧ W'.cell? ⟨W1.heap.size, 1, none⟩ = some (.slice B1 y.dec.length c1) ∧ W'.cell? ⟨W1.heap.size, 2, none⟩ = some (.slice B2 y.exc.length c2) ∧ Below W0.heap.size W0 W') ∧ (∃ E d, v = .slice E fl.length d ∧ fl.length ≤ d ∧ Ints W' E fl ∧ Below W.heap.size W W')) (fun e W' ⟨E, d, he, g1, g2, g3⟩ => ⟨_, he, SH.out W' (hb'.trans (g3.mono hb'.size)), E, d, rfl, g1, g2, g3⟩))
  have SB := Lib.hid (fun D d W (hb' : Below W0.heap.size W0 W) (hD : Ints W D fl) => (SC.out D fl fl.length d W (hal.trans (hb'.mono hal.size)) hD rfl (by omega)).mono (R' := fun e W' => ∃ v, e = .returned v ∧ (W'.cell? ⟨W1.heap.size, 0, none⟩ = some (.slice B0 y.cls.length c0) ∧ W'.cell? ⟨W1.heap.size, 1, none⟩ = some (.slice B1 y.dec.length c1) ∧ W'.cell? ⟨W1.heap.size, 2, none⟩ = some (.slice B2 y.exc.length c2) ∧ Below W0.heap.size W0 W') ∧ (∃ E d, v = .slice E (Can.srt (clz y.cls) fl).length d ∧ (Can.srt (clz y.cls) fl).length ≤ d ∧ Ints W' E (Can.srt (clz y.cls) fl) ∧ Below W.heap.size W W')) (fun e W' ⟨E, d, he, g1, g2, g3⟩ => ⟨_, he, SH.out W' (hb'.trans (g3.mono hb'.size)), E, d, rfl, g1, g2, g3⟩))
  clear p0 p1 p2 FC SC hY
  generalize Can.srt (clz y.cls) fl = sr at *
  go_wp2_with fail
  refine wp_region_held_drew (S := fun W' => W'.cell? ⟨W1.heap.size, 0, none⟩ = some (.slice B0 y.cls.length c0) ∧ W'.cell? ⟨W1.heap.size, 1, none⟩ = some (.slice B1 y.dec.length c1) ∧ W'.cell? ⟨W1.heap.size, 2, none⟩ = some (.slice B2 y.exc.length c2) ∧ Below W0.heap.size W0 W') (by kernel_rfl) (SH.out _ ((Below.refl _ _).drew)) (fun hHeld => ?_)
  refine anyH_take (i := 0) (v := ?_) (some 10) rfl rfl (by kernel_rfl) (by kernel_rfl) (by kernel_rfl) (fun _ _ _ h => h) (by rfl) (by assumption) ?_ ?_
  rotate_left
  · intro w hSw; (try dsimp only at hSw); go_split_ands; go_simp; try (with_reducible rfl)
  try simp only [Act.put, List.setIfInBounds_toArray, List.set_cons_zero, List.set_cons_succ]
  refine anyH_take (i := 1) (v := ?_) (some 11) rfl rfl (by kernel_rfl) (by kernel_rfl) (by kernel_rfl) (fun _ _ _ h => h) (by rfl) (by assumption) ?_ ?_
  rotate_left
  · intro w hSw; (try dsimp only at hSw); go_split_ands; go_simp; try (with_reducible rfl)
  try simp only [Act.put, List.setIfInBounds_toArray, List.set_cons_zero, List.set_cons_succ]
  refine anyH_take (i := 2) (v := ?_) (some 12) rfl rfl (by kernel_rfl) (by kernel_rfl) (by kernel_rfl) (fun _ _ _ h => h) (by rfl) (by assumption) ?_ ?_
  rotate_left
  · intro w hSw; (try dsimp only at hSw); go_split_ands; go_simp; try (with_reducible rfl)
  try simp only [Act.put, List.setIfInBounds_toArray, List.set_cons_zero, List.set_cons_succ]
  refine anyH_take (i := 3) (v := ?_) (some 13) rfl rfl (by kernel_rfl) (by kernel_rfl) (by kernel_rfl) (fun _ _ _ h => h) (by rfl) (by assumption) ?_ ?_
  rotate_left
  · intro w hSw; (try dsimp only at hSw); go_split_ands; go_simp; try (with_reducible rfl)
  try simp only [Act.put, List.setIfInBounds_toArray, List.set_cons_zero, List.set_cons_succ]
  refine anyH_take (i := 4) (v := ?_) (some 14) rfl rfl (by kernel_rfl) (by kernel_rfl) (by kernel_rfl) (fun _ _ _ h => h) (by rfl) (by assumption) ?_ ?_
  rotate_left
  · intro w hSw; (try dsimp only at hSw); go_split_ands; go_simp; try (with_reducible rfl)
  try simp only [Act.put, List.setIfInBounds_toArray, List.set_cons_zero, List.set_cons_succ]
  refine anyH_callE (i := 5) (some 15) rfl rfl (by kernel_rfl) (by rfl) (by go_simp) (FB.out _ hHeld.2.2.2) ?_
  rintro _ W2 hS6 ⟨E1, d1, rfl, hd1, hE1, hbe1⟩
  clear hHeld
  have hHeld := hS6
  clear hS6
  try simp only [Act.put, List.setIfInBounds_toArray, List.set_cons_zero, List.set_cons_succ]
  refine anyH_callE (i := 6) (some 16) rfl rfl (by kernel_rfl) (by rfl) (by go_simp) (SB.out E1 d1 _ hHeld.2.2.2 hE1) ?_
  rintro _ W3 hS6 ⟨E2, d2, rfl, hd2, hE2, hbe2⟩
  clear hHeld
  have hHeld := hS6
  clear hS6
  try simp only [Act.put, List.setIfInBounds_toArray, List.set_cons_zero, List.set_cons_succ]
  refine anyH_take (i := 7) (v := ?_) (some 6) rfl rfl (by kernel_rfl) (by kernel_rfl) (by kernel_rfl) (fun _ _ _ h => h) (by rfl) (by assumption) ?_ ?_
  rotate_left
  · intro w hSw; (try dsimp only at hSw); go_split_ands; go_simp; try (with_reducible rfl)
  try simp only [Act.put, List.setIfInBounds_toArray, List.set_cons_zero, List.set_cons_succ]
  refine wpAnyH_done (by kernel_rfl) ?_ _
  have hb9 := hal.trans (hHeld.2.2.2.mono hal.size)
  have HE := Lib.hid hE2
  clear hHeld SH FB SB hE1 hE2 hbe1 hbe2
  go_wp2_with fail
  go_ret
  exact ⟨E2, d2, rfl, hd2, HE.out, hb9⟩

/-! plain -/
theorem onM_codes {ms : List Mp} (hc : CodesOk ms) {compat : Bool} {c : Int} {to : List Int} (h : onM ms compat c = some to) : ∀ e ∈ to, iok e := by
  intro e he
  unfold onM at h
  split at h
  · next h4 =>
    injection h with h
    subst h
    exact iok_code ((decomp_kids h4).2 e he).1
  · cases hf : fndM ms compat c with
    | none => rw [hf] at h; cases h
    | some m =>
      rw [hf] at h
      obtain ⟨hm, _⟩ := fndM_at hf
      simp only [Option.map_some, Option.some.injEq] at h
      rw [toM_at hm] at h
      subst h
      exact iok_code ((hc m hm).2.2 e he)
theorem full_iok {ms : List Mp} (hc : CodesOk ms) {compat : Bool} {c : Int} {l : List Int} (h : Full (onM ms compat) c l) : iok c → ∀ e ∈ l, iok e := by
  induction h with
  | leaf h => intro h1 e he; simp at he; subst he; exact h1
  | @node c to vs h1 h2 _ ih =>
    intro _ e he
    obtain ⟨v, hv, he⟩ := List.mem_flatten.1 he
    obtain ⟨i, hi, rfl⟩ := List.getElem_of_mem hv
    exact ih i (by omega) hi (onM_codes hc h1 _ (List.getElem_mem (by omega))) e he
/-- what a decomposed text in order is -/
theorem fl_facts {x : Nrm} (h : NOk x) (compat : Bool) {t : List Int} (ht : ∀ c ∈ t, iok c) : (∀ c ∈ Can.srt (clz x.cls) (flM x compat t), iok c ∧ dcM x.dec compat c = [c]) ∧ Can.Ok (clz x.cls) (Can.srt (clz x.cls) (flM x compat t)) := by
  refine ⟨fun c hc => ?_, Can.srt_ok _⟩
  have hm := (Can.srt_perm (flM x compat t)).mem_iff.1 hc
  unfold flM at hm
  obtain ⟨e, he, hce⟩ := List.mem_flatMap.1 hm
  exact ⟨full_iok h.co (dcM_full h.st h.hg h.en compat e) (ht e he) c hce, dcM_elem h.st h.hg h.en compat hce⟩
end Go.Proofs.YtjglanjfgbipmaaGreatDoor
