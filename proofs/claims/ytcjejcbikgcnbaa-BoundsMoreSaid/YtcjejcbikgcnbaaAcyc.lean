/- The two tests for loops agree: the rounds of 'done' and the rounds of 'Chains'; no program in sight. -/
import Derived.Test.YtcjejcbikgcnbaaRight
import Derived.Test.YtcjejcbikgcnbaaRefRight
namespace Go.Proofs.Ytcjejcbikgcnbaa
open Go.RowKit

/-- No task comes before itself: there is a rank. -/
def Acyc (rows : List (List Int)) (n : Nat) : Prop := ∃ rank : Nat → Nat, ∀ k, k < n → ∀ j ∈ rows.getD k [], rank j.toNat < rank k

theorem dGet (ds : List Bool) (i j : Nat) (v : Bool) (hi : i < ds.length) : (ds.set i v).getD j false = if j = i then v else ds.getD j false := by
  rw [List.getD_eq_getElem?_getD, List.getElem?_set, List.getD_eq_getElem?_getD]
  by_cases e : i = j
  · subst e; simp [hi]
  · rw [if_neg e, if_neg (fun h => e h.symm)]

/-! ### Each round of 'done' adds one -/
theorem dStep_mono (rows : List (List Int)) (ds : List Bool) (i j : Nat) (h : ds.getD j false = true) : (dStep rows ds i).getD j false = true := by
  unfold dStep
  by_cases hi : i < ds.length
  · rw [dGet _ _ _ _ hi]
    split
    · rename_i e; subst e; rw [h]; rfl
    · exact h
  · rw [List.set_eq_of_length_le (by omega)]; exact h
theorem dFrom_mono (rows : List (List Int)) : ∀ (m i : Nat) (ds : List Bool) (j : Nat), ds.getD j false = true → (dFrom rows i m ds).getD j false = true
  | 0, _, _, _, h => h
  | m + 1, i, ds, j, h => dFrom_mono rows m (i + 1) _ j (dStep_mono rows ds i j h)
theorem length_dFrom (rows : List (List Int)) : ∀ (m i : Nat) (ds : List Bool), (dFrom rows i m ds).length = ds.length
  | 0, _, _ => rfl
  | m + 1, i, ds => by unfold dFrom; rw [length_dFrom rows m, length_dStep]
/-- A task whose Before are done gets done in the round. -/
theorem dFrom_gets (rows : List (List Int)) : ∀ (m i : Nat) (ds : List Bool) (k : Nat), i ≤ k → k < i + m → k < ds.length → (∀ j ∈ rows.getD k [], ds.getD j.toNat false = true) → (dFrom rows i m ds).getD k false = true
  | 0, i, ds, k, h1, h2, _, _ => by omega
  | m + 1, i, ds, k, h1, h2, hk, hj => by
    unfold dFrom
    by_cases e : i = k
    · subst e
      apply dFrom_mono
      unfold dStep
      rw [dGet _ _ _ _ hk, if_pos rfl]
      have : ((rows.getD i []).all fun k => ds.getD k.toNat false) = true := List.all_eq_true.2 hj
      rw [this, Bool.or_true]
    · exact dFrom_gets rows m (i + 1) _ k (by omega) (by omega) (by rw [length_dStep]; exact hk) (fun j h => dStep_mono rows ds i _ (hj j h))

theorem count_le : ∀ (a b : List Bool), a.length = b.length → (∀ j, a.getD j false = true → b.getD j false = true) → a.count true ≤ b.count true
  | [], [], _, _ => Nat.le_refl _
  | [], _ :: _, h, _ => by simp at h
  | _ :: _, [], h, _ => by simp at h
  | x :: a, y :: b, hl, h => by
    have h0 := h 0
    have ih := count_le a b (by simpa using hl) (fun j => by simpa using h (j + 1))
    simp only [List.getD_cons_zero] at h0
    cases x <;> cases y <;> simp at h0 ⊢ <;> omega
theorem count_lt : ∀ (a b : List Bool) (k : Nat), a.length = b.length → (∀ j, a.getD j false = true → b.getD j false = true) → a.getD k false = false → b.getD k false = true → a.count true < b.count true
  | [], [], _, _, _, _, h2 => by simp at h2
  | [], _ :: _, _, h, _, _, _ => by simp at h
  | _ :: _, [], _, h, _, _, _ => by simp at h
  | x :: a, y :: b, k, hl, h, h1, h2 => by
    have h0 := h 0
    have hl' : a.length = b.length := by simpa using hl
    have ht : ∀ j, a.getD j false = true → b.getD j false = true := fun j => by simpa using h (j + 1)
    have hle := count_le a b hl' ht
    simp only [List.getD_cons_zero] at h0
    cases k with
    | zero =>
      simp only [List.getD_cons_zero] at h1 h2
      subst h1 h2
      simp; omega
    | succ k =>
      have ih := count_lt a b k hl' ht (by simpa using h1) (by simpa using h2)
      cases x <;> cases y <;> simp at h0 ⊢ <;> omega

/-- Among what is not done there is one whose Before are all done. -/
theorem least_undone {rows : List (List Int)} {n : Nat} {ds : List Bool} (hA : Acyc rows n) (hlt : ∀ k, k < n → ∀ j ∈ rows.getD k [], j.toNat < n) (h : ∃ k, k < n ∧ ds.getD k false = false) :
    ∃ k, k < n ∧ ds.getD k false = false ∧ ∀ j ∈ rows.getD k [], ds.getD j.toNat false = true := by
  obtain ⟨rank, hr⟩ := hA
  suffices H : ∀ (m : Nat) (k : Nat), rank k ≤ m → k < n → ds.getD k false = false → ∃ k, k < n ∧ ds.getD k false = false ∧ ∀ j ∈ rows.getD k [], ds.getD j.toNat false = true by
    obtain ⟨k, hk, hd⟩ := h
    exact H _ k (Nat.le_refl _) hk hd
  intro m
  induction m with
  | zero =>
    intro k h0 hk hd
    refine ⟨k, hk, hd, fun j hj => ?_⟩
    have := hr k hk j hj
    omega
  | succ m ih =>
    intro k hm hk hd
    by_cases hall : ∀ j ∈ rows.getD k [], ds.getD j.toNat false = true
    · exact ⟨k, hk, hd, hall⟩
    · obtain ⟨j, hj⟩ := Classical.not_forall.1 hall
      obtain ⟨hj1, hj2⟩ := Classical.not_imp.1 hj
      have := hr k hk j hj1
      exact ih j.toNat (by omega) (hlt k hk j hj1) (by simpa using hj2)

theorem count_full {ds : List Bool} (h : ds.length ≤ ds.count true) : ds.all id = true := by
  rw [List.all_eq_true]
  intro x hx
  have := List.count_le_length (a := true) (l := ds)
  have he : ds.count true = ds.length := by omega
  rw [List.count_eq_length] at he
  exact (he x hx) ▸ rfl
theorem all_getD {ds : List Bool} (h : ds.all id = false) : ∃ k, k < ds.length ∧ ds.getD k false = false := by
  rw [List.all_eq_false] at h
  obtain ⟨x, hx, hf⟩ := h
  obtain ⟨k, hk, rfl⟩ := List.getElem_of_mem hx
  exact ⟨k, hk, by rw [List.getD_eq_getElem?_getD, List.getElem?_eq_getElem hk]; simpa using hf⟩

theorem dIter_all {rows : List (List Int)} {n : Nat} (hA : Acyc rows n) (hlt : ∀ k, k < n → ∀ j ∈ rows.getD k [], j.toNat < n) :
    ∀ (f : Nat) (ds : List Bool), ds.length = n → (dIter rows n f ds).length = n ∧ ((dIter rows n f ds).all id = true ∨ ds.count true + f ≤ (dIter rows n f ds).count true)
  | 0, ds, hl => ⟨hl, .inr (Nat.le_refl _)⟩
  | f + 1, ds, hl => by
    unfold dIter
    have hl' : (dFrom rows 0 n ds).length = n := by rw [length_dFrom, hl]
    obtain ⟨h1, h2⟩ := dIter_all hA hlt f (dFrom rows 0 n ds) hl'
    refine ⟨h1, ?_⟩
    rcases h2 with h2 | h2
    · exact .inl h2
    · cases hall : ds.all id with
      | true =>
        left
        apply count_full
        have hc : ds.count true = ds.length := List.count_eq_length.2 fun b hb => by
          have := List.all_eq_true.1 hall b hb
          simpa using this.symm
        have hm := count_le ds (dFrom rows 0 n ds) (by omega) (fun j => dFrom_mono rows n 0 ds j)
        rw [h1]
        omega
      | false =>
        right
        obtain ⟨k, hk, hd⟩ := all_getD hall
        obtain ⟨k, hk, hd, hj⟩ := least_undone hA hlt ⟨k, by omega, hd⟩
        have := count_lt ds (dFrom rows 0 n ds) k (by omega) (fun j => dFrom_mono rows n 0 ds j) hd (dFrom_gets rows n 0 ds k (Nat.zero_le _) (by omega) (by omega) hj)
        omega

theorem done_of_acyc {rows : List (List Int)} {n : Nat} (hA : Acyc rows n) (hlt : ∀ k, k < n → ∀ j ∈ rows.getD k [], j.toNat < n) : (dIter rows n n (List.replicate n false)).all id = true := by
  obtain ⟨h1, h2⟩ := dIter_all hA hlt n (List.replicate n false) (by simp)
  rcases h2 with h2 | h2
  · exact h2
  · apply count_full
    rw [h1]
    omega

/-! ### The rounds of Chains -/
/-- All values are those of the round's own law. -/
def Fixed (ls : List Int) (rows : List (List Int)) (n : Nat) (x : List Int) : Prop := ∀ i, i < n → x.getD i 0 = cVal (ls.getD i 0) x (rows.getD i [])

theorem cFrom_fixed (ls : List Int) (rows : List (List Int)) : ∀ (m i : Nat) (x : List Int), x.length = i + m → cFrom ls rows i m x = x → ∀ k, i ≤ k → k < i + m → x.getD k 0 = cVal (ls.getD k 0) x (rows.getD k [])
  | 0, i, x, _, _, k, h1, h2 => by omega
  | m + 1, i, x, hl, h, k, h1, h2 => by
    unfold cFrom at h
    have hi : i < x.length := by omega
    have hstep : cStep ls rows x i = x := by
      have := cFrom_old ls rows m (i + 1) (cStep ls rows x i) i (by omega)
      rw [h] at this
      unfold cStep at this ⊢
      rw [getD_set_int _ _ _ _ hi, if_pos rfl] at this
      rw [← this, getD_get x i hi, set_same]
    rw [hstep] at h
    by_cases e : k = i
    · subst e
      have := congrArg (fun y => y.getD k 0) hstep
      simp only [cStep] at this
      rw [getD_set_int _ _ _ _ hi, if_pos rfl] at this
      exact this.symm
    · exact cFrom_fixed ls rows m (i + 1) x (by omega) h k (by omega) (by omega)
theorem fixed_cFrom (ls : List Int) (rows : List (List Int)) {n : Nat} {x : List Int} (hl : x.length = n) (h : Fixed ls rows n x) : ∀ (m i : Nat), i + m ≤ n → cFrom ls rows i m x = x
  | 0, _, _ => rfl
  | m + 1, i, hi => by
    unfold cFrom
    have : cStep ls rows x i = x := by
      unfold cStep
      rw [← h i (by omega), getD_get x i (by omega), set_same]
    rw [this]
    exact fixed_cFrom ls rows hl h m (i + 1) (by omega)

theorem cVal_ge (len : Int) (x js : List Int) : len ≤ cVal len x js ∧ ∀ j ∈ js, len + x.getD j.toNat 0 ≤ cVal len x js := by
  unfold cVal
  suffices H : ∀ (js : List Int) (n : Int), n ≤ js.foldl (fun n j => max n (len + x.getD j.toNat 0)) n ∧ ∀ j ∈ js, len + x.getD j.toNat 0 ≤ js.foldl (fun n j => max n (len + x.getD j.toNat 0)) n from H js len
  intro js
  induction js with
  | nil => exact fun n => ⟨Int.le_refl _, by simp⟩
  | cons a js ih =>
    intro n
    obtain ⟨h1, h2⟩ := ih (max n (len + x.getD a.toNat 0))
    simp only [List.foldl_cons]
    refine ⟨by omega, fun j hj => ?_⟩
    rw [List.mem_cons] at hj
    rcases hj with rfl | hj
    · omega
    · exact h2 j hj
theorem acyc_of_fixed {ls : List Int} {rows : List (List Int)} {n : Nat} {x : List Int} (h : Fixed ls rows n x) (hl : ∀ i, i < n → 1 ≤ ls.getD i 0) (hlt : ∀ k, k < n → ∀ j ∈ rows.getD k [], j.toNat < n) : Acyc rows n := by
  refine ⟨fun k => (x.getD k 0).toNat, fun k hk j hj => ?_⟩
  have h1 := (cVal_ge (ls.getD k 0) x (rows.getD k [])).2 j hj
  have h2 := h k hk
  have h3 := hl k hk
  have hj' := hlt k hk j hj
  have h4 := h j.toNat hj'
  have h5 := (cVal_ge (ls.getD j.toNat 0) x (rows.getD j.toNat [])).1
  have h6 := hl _ hj'
  show (x.getD j.toNat 0).toNat < (x.getD k 0).toNat
  omega

theorem cVal_congr {len : Int} {x y js : List Int} (h : ∀ j ∈ js, x.getD j.toNat 0 = y.getD j.toNat 0) : cVal len x js = cVal len y js := by
  unfold cVal
  suffices H : ∀ (n : Int), js.foldl (fun n j => max n (len + x.getD j.toNat 0)) n = js.foldl (fun n j => max n (len + y.getD j.toNat 0)) n from H len
  induction js with
  | nil => exact fun _ => rfl
  | cons a js ih =>
    intro n
    simp only [List.foldl_cons]
    rw [h a (by simp), ih (fun j hj => h j (by simp [hj]))]

/-- What is settled has its value, and what comes before it is settled. -/
def Settled (ls : List Int) (rows : List (List Int)) (n : Nat) (x : List Int) (ds : List Bool) : Prop :=
  ∀ k, k < n → ds.getD k false = true → (∀ j ∈ rows.getD k [], ds.getD j.toNat false = true) ∧ x.getD k 0 = cVal (ls.getD k 0) x (rows.getD k [])

theorem Settled.step {ls : List Int} {rows : List (List Int)} {n i : Nat} {x : List Int} {ds : List Bool} (h : Settled ls rows n x ds) (hi : i < n) (hx : x.length = n) (hd : ds.length = n) (hlt : ∀ k, k < n → ∀ j ∈ rows.getD k [], j.toNat < n) :
    Settled ls rows n (cStep ls rows x i) (dStep rows ds i) := by
  -- the value of a settled task does not change
  have hsame : ∀ k, k < n → ds.getD k false = true → (cStep ls rows x i).getD k 0 = x.getD k 0 := by
    intro k hk hkd
    unfold cStep
    rw [getD_set_int _ _ _ _ (by omega)]
    split
    · rename_i e; subst e; exact ((h k hk hkd).2).symm
    · rfl
  intro k hk hkd
  have hold : (∀ j ∈ rows.getD k [], ds.getD j.toNat false = true) := by
    by_cases hkd0 : ds.getD k false = true
    · exact (h k hk hkd0).1
    · unfold dStep at hkd
      rw [dGet _ _ _ _ (by omega)] at hkd
      by_cases e : k = i
      · subst e
        rw [if_pos rfl] at hkd
        have h0 : ds.getD k false = false := by simpa using hkd0
        rw [h0, Bool.false_or, List.all_eq_true] at hkd
        exact hkd
      · rw [if_neg e] at hkd
        exact absurd hkd hkd0
  have hcong : cVal (ls.getD k 0) (cStep ls rows x i) (rows.getD k []) = cVal (ls.getD k 0) x (rows.getD k []) :=
    cVal_congr fun j hj => hsame _ (hlt k hk j hj) (hold j hj)
  refine ⟨fun j hj => dStep_mono rows ds i _ (hold j hj), ?_⟩
  rw [hcong]
  by_cases e : k = i
  · subst e
    unfold cStep
    rw [getD_set_int _ _ _ _ (by omega), if_pos rfl]
  · have hkd0 : ds.getD k false = true := by
      unfold dStep at hkd
      rw [dGet _ _ _ _ (by omega), if_neg e] at hkd
      exact hkd
    rw [hsame k hk hkd0]
    exact (h k hk hkd0).2
theorem Settled.from_ {ls : List Int} {rows : List (List Int)} {n : Nat} (hlt : ∀ k, k < n → ∀ j ∈ rows.getD k [], j.toNat < n) :
    ∀ (m i : Nat) (x : List Int) (ds : List Bool), i + m ≤ n → x.length = n → ds.length = n → Settled ls rows n x ds → Settled ls rows n (cFrom ls rows i m x) (dFrom rows i m ds)
  | 0, _, _, _, _, _, _, h => h
  | m + 1, i, x, ds, hi, hx, hd, h => by
    unfold cFrom dFrom
    exact Settled.from_ hlt m (i + 1) _ _ (by omega) (by rw [length_cStep]; exact hx) (by rw [length_dStep]; exact hd) (h.step (by omega) hx hd hlt)

theorem some_of_done {ls : List Int} {rows : List (List Int)} {n : Nat} (hlt : ∀ k, k < n → ∀ j ∈ rows.getD k [], j.toNat < n) :
    ∀ (f : Nat) (x : List Int) (ds : List Bool), x.length = n → ds.length = n → Settled ls rows n x ds → (dIter rows n f ds).all id = true → (cIter ls rows n (f + 1) x).isSome = true
  | 0, x, ds, hx, hd, h, hall => by
    have hf : Fixed ls rows n x := fun i hi => (h i hi (by
      have hall' : ds.all id = true := hall
      rw [List.getD_eq_getElem?_getD, List.getElem?_eq_getElem (by omega)]
      exact List.all_eq_true.1 hall' _ (List.getElem_mem (by omega)))).2
    unfold cIter
    rw [if_pos (fixed_cFrom ls rows hx hf n 0 (by omega))]
    rfl
  | f + 1, x, ds, hx, hd, h, hall => by
    unfold cIter
    split
    · rfl
    · exact some_of_done hlt f _ (dFrom rows 0 n ds) (by rw [length_cFrom]; exact hx) (by rw [length_dFrom]; exact hd) (Settled.from_ hlt n 0 x ds (by omega) hx hd h) hall

theorem cIter_fixed {ls : List Int} {rows : List (List Int)} {n : Nat} : ∀ (f : Nat) (x y : List Int), x.length = n → cIter ls rows n f x = some y → y.length = n ∧ Fixed ls rows n y
  | 0, _, _, _, h => by cases h
  | f + 1, x, y, hx, h => by
    unfold cIter at h
    split at h
    · rename_i e
      injection h with h
      subst h
      exact ⟨hx, fun i hi => cFrom_fixed ls rows n 0 x (by omega) e i (Nat.zero_le _) (by omega)⟩
    · exact cIter_fixed f _ y (by rw [length_cFrom]; exact hx) h

/-! ### The tasks -/
structure Sane (l : List Task) : Prop where
  len : l.length ≤ 8
  field : ∀ i (hi : i < l.length), fieldB l[i] = true
  dist : distinct l = true
  bef : befOK l = true
theorem Sane.rows {l : List Task} (h : Sane l) : ∀ k, k < l.length → ∀ j ∈ (rowsOf l).getD k [], j.toNat < l.length := by
  intro k hk j hj
  rw [getD_rows hk] at hj
  unfold pls at hj
  rw [List.mem_map] at hj
  obtain ⟨s, hs, rfl⟩ := hj
  obtain ⟨m, hm, e, -⟩ := pl_mem (((befOK_iff l).1 h.bef l[k] (List.getElem_mem hk)).2 s hs).1
  rw [e]
  omega
theorem Sane.lens {l : List Task} (h : Sane l) : ∀ i, i < l.length → 1 ≤ (lens l).getD i 0 := by
  intro i hi
  rw [getD_lens hi]
  exact (fieldB_len (h.field i hi)).1
theorem done_chains {l : List Task} (h : Sane l) : doneAll l = (chainsF l).isSome := by
  rw [Bool.eq_iff_iff]
  constructor
  · intro hd
    exact some_of_done h.rows l.length _ (List.replicate l.length false) (by simp) (by simp) (fun k hk hkd => by
      rw [List.getD_eq_getElem?_getD, List.getElem?_replicate] at hkd
      split at hkd <;> simp at hkd) hd
  · intro hs
    obtain ⟨x, hx⟩ := Option.isSome_iff_exists.1 hs
    obtain ⟨-, hf⟩ := cIter_fixed _ _ _ (by simp) hx
    exact done_of_acyc (acyc_of_fixed hf h.lens h.rows) h.rows

theorem sane_iff {l : List Task} : Sane l ↔ l.length ≤ 8 ∧ ∀ i (hi : i < l.length), OneR l i l[i] := by
  constructor
  · intro h
    refine ⟨h.len, fun i hi => ⟨h.field i hi, pl_name h.dist hi, ?_, (befOK_iff l).1 h.bef _ (List.getElem_mem hi)⟩⟩
    exact ((befOK_iff l).1 h.bef _ (List.getElem_mem hi)).le
  · rintro ⟨h8, h⟩
    refine ⟨h8, fun i hi => (h i hi).1, ?_, (befOK_iff l).2 fun t ht => ?_⟩
    · unfold distinct
      rw [decide_eq_true_iff]
      unfold names
      rw [List.Nodup, List.pairwise_iff_getElem]
      intro i j hi hj hij e
      rw [List.length_map] at hi hj
      rw [List.getElem_map, List.getElem_map] at e
      have h1 := (h i hi).2.1
      have h2 := (h j hj).2.1
      rw [e, h2] at h1
      omega
    · obtain ⟨i, hi, rfl⟩ := List.getElem_of_mem ht
      exact (h i hi).2.2.2
theorem rightW_eq (l : List Task) : rightW l = rightR l := by
  by_cases h : Sane l
  · obtain ⟨h8, hone⟩ := sane_iff.1 h
    rw [rightR_yes h8 hone, ← done_chains h]
    unfold rightW
    have hf : l.all fieldB = true := by
      rw [List.all_eq_true]
      intro t ht
      obtain ⟨i, hi, rfl⟩ := List.getElem_of_mem ht
      exact h.field i hi
    rw [hf, h.dist, h.bef]
    simp [h8]
  · have h1 : rightR l = false := by
      unfold rightR
      rw [Bool.and_eq_false_iff]
      left
      simp only [decide_eq_false_iff_not]
      exact fun hh => h (sane_iff.2 hh)
    rw [h1]
    unfold rightW
    by_cases h8 : l.length ≤ 8
    · by_cases hf : l.all fieldB = true
      · by_cases hd : distinct l = true
        · have hb : befOK l = false := by
            cases hb : befOK l with
            | false => rfl
            | true =>
              exact absurd ⟨h8, fun i hi => List.all_eq_true.1 hf _ (List.getElem_mem hi), hd, hb⟩ h
          simp [hb]
        · simp [hd]
      · simp [hf]
    · simp [h8]

/-- Tasks are right: what both tests compute. -/
structure RightT (l : List Task) : Prop extends Sane l where
  acyc : Acyc (rowsOf l) l.length
theorem right_iff (l : List Task) : rightR l = true ↔ RightT l := by
  constructor
  · intro h
    have h' := h
    unfold rightR at h
    rw [Bool.and_eq_true] at h
    have hs := sane_iff.2 (@of_decide_eq_true _ (Classical.propDecidable _) h.1)
    obtain ⟨x, hx⟩ := Option.isSome_iff_exists.1 h.2
    obtain ⟨-, hf⟩ := cIter_fixed _ _ _ (by simp) hx
    exact ⟨hs, acyc_of_fixed hf hs.lens hs.rows⟩
  · intro h
    obtain ⟨h8, hone⟩ := sane_iff.1 h.toSane
    rw [rightR_yes h8 hone, ← done_chains h.toSane]
    exact done_of_acyc h.acyc h.rows

end Go.Proofs.Ytcjejcbikgcnbaa
