/- Parts of the proof, laid into one text: CritP, RefCrit. -/
import Derived.Test.YtfcfphamecbcgaaGreatG2
import Derived.Test.YtfcfphamecbcgaaGreatG4
import Derived.Test.YtfcfphamecbcgaaGreatG8

/- Critical tasks, plain: the longest chains that end, and that begin, with a task. No program in sight. -/
namespace Go.Proofs.YtfcfphamecbcgaaGreat

/-! ### Chains that end with a task -/
/-- The greatest sum of a chain that ends with a task. -/
def upI (l : List Task) (i : Nat) : Int := ((chainsF l).getD []).getD i 0
theorem up_fixed {l : List Task} (hR : RightT l) : ∃ x, chainsF l = some x ∧ x.length = l.length ∧ Fixed (lens l) (rowsOf l) l.length x := by
  have h := (right_iff l).2 hR
  unfold rightR at h
  rw [Bool.and_eq_true] at h
  obtain ⟨x, hx⟩ := Option.isSome_iff_exists.1 h.2
  obtain ⟨h1, h2⟩ := cIter_fixed _ _ _ (by simp) hx
  exact ⟨x, hx, h1, h2⟩
/-- The greatest among the tasks of a row. -/
def maxOf (f : Nat → Int) (r : List Int) : Int := r.foldl (fun a k => max a (f k.toNat)) 0
theorem foldl_shift (f : Int → Int) (c : Int) : ∀ (r : List Int) (a : Int), r.foldl (fun n j => max n (c + f j)) (c + a) = c + r.foldl (fun n j => max n (f j)) a
  | [], a => rfl
  | x :: r, a => by
    rw [List.foldl_cons, List.foldl_cons, show max (c + a) (c + f x) = c + max a (f x) by omega]
    exact foldl_shift f c r _
theorem maxOf_snoc {f : Nat → Int} {r : List Int} {m : Nat} (h : m < r.length) : maxOf f (r.take (m + 1)) = max (maxOf f (r.take m)) (f r[m].toNat) := by
  unfold maxOf
  rw [take_snoc r m h, List.foldl_append]
  rfl
theorem maxOf_ge {f : Nat → Int} {r : List Int} : 0 ≤ maxOf f r ∧ ∀ j ∈ r, f j.toNat ≤ maxOf f r := by
  suffices H : ∀ a, a ≤ r.foldl (fun a k => max a (f k.toNat)) a ∧ ∀ j ∈ r, f j.toNat ≤ r.foldl (fun a k => max a (f k.toNat)) a from H 0
  induction r with
  | nil => exact fun a => ⟨Int.le_refl _, by simp⟩
  | cons x r ih =>
    intro a
    have h := ih (max a (f x.toNat))
    rw [List.foldl_cons]
    refine ⟨by have := h.1; omega, fun j hj => ?_⟩
    rcases List.mem_cons.1 hj with rfl | hj
    · have := h.1; omega
    · exact h.2 j hj
theorem maxOf_has {f : Nat → Int} {r : List Int} : maxOf f r = 0 ∨ ∃ j ∈ r, maxOf f r = f j.toNat := by
  suffices H : ∀ a, r.foldl (fun a k => max a (f k.toNat)) a = a ∨ ∃ j ∈ r, r.foldl (fun a k => max a (f k.toNat)) a = f j.toNat from H 0
  induction r with
  | nil => exact fun a => .inl rfl
  | cons x r ih =>
    intro a
    rw [List.foldl_cons]
    rcases ih (max a (f x.toNat)) with h | ⟨j, hj, h⟩
    · by_cases e : a ≤ f x.toNat
      · exact .inr ⟨x, by simp, by omega⟩
      · exact .inl (by omega)
    · exact .inr ⟨j, by simp [hj], h⟩
theorem up_eq {l : List Task} (hR : RightT l) {i : Nat} (hi : i < l.length) : upI l i = maxOf (upI l) (rowAt l i) + lenAt l i := by
  obtain ⟨x, hx, hl, hf⟩ := up_fixed hR
  have hu : ∀ j, upI l j = x.getD j 0 := fun j => by unfold upI; rw [hx]; rfl
  have h := hf i hi
  unfold cVal at h
  have h2 := foldl_shift (fun j : Int => x.getD j.toNat 0) ((lens l).getD i 0) ((rowsOf l).getD i []) 0
  rw [Int.add_zero] at h2
  rw [hu, h, h2]
  unfold maxOf lenAt rowAt
  rw [show (fun (a k : Int) => max a (upI l k.toNat)) = fun n j => max n (x.getD j.toNat 0) from funext fun a => funext fun k => by rw [hu]]
  omega
theorem row_edge {l : List Task} (hR : RightT l) {i : Nat} (hi : i < l.length) {k : Int} (hk : k ∈ rowAt l i) : edge l k.toNat i := by
  have hrow : rowAt l i = pls l l[i].bef := getD_rows hi
  rw [hrow] at hk
  unfold pls at hk
  rw [List.mem_map] at hk
  obtain ⟨s, hs, rfl⟩ := hk
  obtain ⟨j, hj, e, he⟩ := pl_mem (((befOK_iff l).1 hR.bef l[i] (List.getElem_mem hi)).2 s hs).1
  rw [e, Int.toNat_natCast]
  exact ⟨hj, hi, by rw [he]; exact hs⟩
theorem edge_rowAt {l : List Task} (hR : RightT l) {i k : Nat} (h : edge l i k) : (i : Int) ∈ rowAt l k := edge_row hR.dist h
theorem up_most {l : List Task} (hR : RightT l) : ∀ (n : Nat) {z : List Nat} {i : Nat}, z.length = n → Chain l (z ++ [i]) → sumAt l (z ++ [i]) ≤ upI l i
  | 0, z, i, hz, h => by
    have : z = [] := List.length_eq_zero_iff.1 hz
    subst this
    have hi := h.1 i (by simp)
    rw [up_eq hR hi]
    have := (maxOf_ge (f := upI l) (r := rowAt l i)).1
    rw [sumAt_snoc, sumAt_nil]
    omega
  | n + 1, z, i, hz, h => by
    have hne : z ≠ [] := fun e => by rw [e] at hz; simp at hz
    have hi := h.1 i (by simp)
    have he := h.last_edge hne
    have h1 := up_most hR n (z := z.dropLast) (i := z.getLast hne) (by rw [List.length_dropLast]; omega) (by rw [List.dropLast_concat_getLast hne]; exact h.front)
    rw [List.dropLast_concat_getLast hne] at h1
    have h2 := (maxOf_ge (f := upI l) (r := rowAt l i)).2 _ (edge_rowAt hR he)
    rw [Int.toNat_natCast] at h2
    rw [up_eq hR hi, sumAt_snoc]
    omega
theorem up_has {l : List Task} (hR : RightT l) : ∀ (i : Nat), i < l.length → ∃ z, Chain l (z ++ [i]) ∧ sumAt l (z ++ [i]) = upI l i := by
  obtain ⟨rank, hr⟩ := hR.acyc
  suffices H : ∀ (n i : Nat), rank i < n → i < l.length → ∃ z, Chain l (z ++ [i]) ∧ sumAt l (z ++ [i]) = upI l i from fun i hi => H (rank i + 1) i (by omega) hi
  intro n
  induction n with
  | zero => intro i h; omega
  | succ n ih =>
    intro i hn hi
    rw [up_eq hR hi]
    rcases maxOf_has (f := upI l) (r := rowAt l i) with h | ⟨k, hk, h⟩
    · exact ⟨[], Chain.one hi, by rw [sumAt_snoc, sumAt_nil, h]⟩
    · have he := row_edge hR hi hk
      have h3 := hr i hi k hk
      obtain ⟨z, hz, hs⟩ := ih k.toNat (by omega) he.1
      refine ⟨z ++ [k.toNat], hz.snoc hi (fun _ => by rw [List.getLast_append_of_ne_nil _ (by simp)]; exact he), ?_⟩
      rw [sumAt_snoc, hs, h]
theorem up_bd {l : List Task} (hR : RightT l) {i : Nat} (hi : i < l.length) : lenAt l i ≤ upI l i ∧ upI l i ≤ 80000 := by
  obtain ⟨z, hz, hs⟩ := up_has hR i hi
  have h1 := sumAt_bd hR (z ++ [i])
  have h2 := hz.short hR
  have h3 := hR.len
  have h4 := up_eq hR hi
  have h5 := (maxOf_ge (f := upI l) (r := rowAt l i)).1
  omega

/-! ### Chains that begin with a task -/
/-- The greatest sum of a chain that begins with a task. -/
noncomputable def downI (l : List Task) (i : Nat) : Int := @Classical.epsilon Int ⟨0⟩ (IsFrom l i)
theorem down_is {l : List Task} (hR : RightT l) {i : Nat} (hi : i < l.length) : IsFrom l i (downI l i) :=
  @Classical.epsilon_spec Int (IsFrom l i) (exists_from hR l.length i hi fun _ hz => hz.short hR)
theorem down_bd {l : List Task} (hR : RightT l) {i : Nat} (hi : i < l.length) : lenAt l i ≤ downI l i ∧ downI l i ≤ 80000 := by
  have h := down_is hR hi
  have h1 := h.most [] (Chain.one hi)
  rw [sumAt_cons, sumAt_nil] at h1
  have := h.bd hR
  omega
theorem down_edge {l : List Task} (hR : RightT l) {i j : Nat} (h : edge l i j) : lenAt l i + downI l j ≤ downI l i := by
  obtain ⟨z, hz, hs⟩ := (down_is hR h.2.1).has
  have := (down_is hR h.1).most (j :: z) (Chain.cons_iff.2 ⟨h, hz⟩)
  rw [sumAt_cons, hs] at this
  exact this

/-! ### Critical tasks -/
noncomputable def critI (l : List Task) (i : Nat) : Int := upI l i + downI l i - lenAt l i
noncomputable def critTo (l : List Task) : Nat → Int
  | 0 => 0
  | k + 1 => max (critTo l k) (critI l k)
def upTo (l : List Task) : Nat → Int
  | 0 => 0
  | k + 1 => max (upTo l k) (upI l k)
theorem crit_bd {l : List Task} (hR : RightT l) {i : Nat} (hi : i < l.length) : upI l i ≤ critI l i ∧ 0 ≤ critI l i ∧ critI l i ≤ 160000 := by
  have h1 := up_bd hR hi
  have h2 := down_bd hR hi
  have h3 := lenAt_bd hR i
  unfold critI
  omega
theorem critTo_bd {l : List Task} (hR : RightT l) : ∀ k, k ≤ l.length → 0 ≤ critTo l k ∧ critTo l k ≤ 160000 ∧ ∀ i, i < k → critI l i ≤ critTo l k
  | 0, _ => by simp [critTo]
  | k + 1, hk => by
    have h := critTo_bd hR k (by omega)
    have h1 := crit_bd hR (show k < l.length by omega)
    rw [critTo]
    refine ⟨by omega, by omega, fun i hi => ?_⟩
    by_cases e : i = k
    · subst e; omega
    · have := h.2.2 i (by omega); omega
theorem upTo_bd {l : List Task} (hR : RightT l) : ∀ k, k ≤ l.length → 0 ≤ upTo l k ∧ upTo l k ≤ 80000 ∧ ∀ i, i < k → upI l i ≤ upTo l k
  | 0, _ => by simp [upTo]
  | k + 1, hk => by
    have h := upTo_bd hR k (by omega)
    have h1 := up_bd hR (show k < l.length by omega)
    rw [upTo]
    refine ⟨by omega, by omega, fun i hi => ?_⟩
    by_cases e : i = k
    · subst e; omega
    · have := h.2.2 i (by omega); omega
theorem Chain.join {l : List Task} {z : List Nat} {i : Nat} {x : List Nat} (h : Chain l (z ++ [i])) (h' : Chain l (i :: x)) : Chain l (z ++ i :: x) := by
  induction z with
  | nil => exact h'
  | cons a z ih =>
    cases z with
    | nil => exact Chain.cons_iff.2 ⟨(Chain.cons_iff.1 h).1, h'⟩
    | cons b z =>
      have := Chain.cons_iff.1 (show Chain l (a :: b :: (z ++ [i])) from h)
      exact Chain.cons_iff.2 ⟨this.1, ih this.2⟩
/-- Through a task no chain is longer than the longest. -/
theorem crit_le {l : List Task} (hR : RightT l) {i : Nat} (hi : i < l.length) : critI l i ≤ upTo l l.length := by
  obtain ⟨z, hz, hs⟩ := up_has hR i hi
  obtain ⟨x, hx, hs'⟩ := (down_is hR hi).has
  have hj := hz.join hx
  have hsum : sumAt l (z ++ i :: x) = critI l i := by
    rw [sumAt_snoc] at hs
    rw [sumAt_append]
    unfold critI
    omega
  have hne : z ++ i :: x ≠ [] := by simp
  have h1 := up_most hR _ (z := (z ++ i :: x).dropLast) (i := (z ++ i :: x).getLast hne) rfl (by rw [List.dropLast_concat_getLast hne]; exact hj)
  rw [List.dropLast_concat_getLast hne, hsum] at h1
  have h2 := (upTo_bd hR l.length (Nat.le_refl _)).2.2 _ (hj.1 _ (List.getLast_mem hne))
  omega
theorem crit_up {l : List Task} (hR : RightT l) : critTo l l.length = upTo l l.length := by
  suffices H : ∀ k, k ≤ l.length → upTo l k ≤ critTo l k ∧ critTo l k ≤ upTo l l.length by
    have := H l.length (Nat.le_refl _); omega
  intro k
  induction k with
  | zero => exact fun _ => ⟨Int.le_refl _, by have := (upTo_bd hR l.length (Nat.le_refl _)).1; exact this⟩
  | succ k ih =>
    intro hk
    have h := ih (by omega)
    have h1 := crit_bd hR (show k < l.length by omega)
    have h2 := crit_le hR (show k < l.length by omega)
    rw [upTo, critTo]
    omega
/-- The names of the critical tasks below k. -/
noncomputable def critL (l : List Task) : Nat → List ByteArray
  | 0 => []
  | k + 1 => if critI l k = upTo l l.length then critL l k ++ [(names l).getD k ⟨#[]⟩] else critL l k
theorem critL_len {l : List Task} : ∀ k, (critL l k).length ≤ k
  | 0 => by simp [critL]
  | k + 1 => by
    have := critL_len (l := l) k
    unfold critL
    split
    · simp; omega
    · omega

/-! ### The reference's rounds -/
def dIn (l : List Task) (d : List Int) (i : Nat) (r : List Int) : List Int := r.foldl (fun d j => d.set j.toNat (max (d.getD j.toNat 0) (lenAt l j.toNat + d.getD i 0))) d
def dLen (l : List Task) (d : List Int) (i : Nat) : List Int := d.set i (max (d.getD i 0) (lenAt l i))
def dOne (l : List Task) (d : List Int) (i : Nat) : List Int := dIn l (dLen l d i) i (rowAt l i)
def dTo (l : List Task) (d : List Int) : Nat → List Int
  | 0 => d
  | k + 1 => dOne l (dTo l d k) k
def dRounds (l : List Task) : Nat → List Int
  | 0 => List.replicate l.length 0
  | r + 1 => dTo l (dRounds l r) l.length
theorem dIn_snoc {l : List Task} {d : List Int} {i : Nat} {r : List Int} {m : Nat} (h : m < r.length) : dIn l d i (r.take (m + 1)) = (dIn l d i (r.take m)).set r[m].toNat (max ((dIn l d i (r.take m)).getD r[m].toNat 0) (lenAt l r[m].toNat + (dIn l d i (r.take m)).getD i 0)) := by
  unfold dIn
  rw [take_snoc r m h, List.foldl_append]
  rfl
/-- What holds of all lists on the way. -/
structure DInv (l : List Task) (d : List Int) : Prop where
  len : d.length = l.length
  bd : ∀ i, i < l.length → 0 ≤ d.getD i 0 ∧ d.getD i 0 ≤ downI l i
theorem DInv.step {l : List Task} (hR : RightT l) {d : List Int} {i : Nat} (h : DInv l d) (hi : i < l.length) {j : Int} (hj : j ∈ rowAt l i) : DInv l (d.set j.toNat (max (d.getD j.toNat 0) (lenAt l j.toNat + d.getD i 0))) := by
  have he := row_edge hR hi hj
  have hd := down_edge hR he
  have h1 := h.bd i hi
  refine ⟨by rw [List.length_set]; exact h.len, fun k hk => ?_⟩
  have h2 := h.bd k hk
  rw [getD_set_int _ _ _ _ (by rw [h.len]; exact he.1)]
  split
  · rename_i e
    subst e
    have := lenAt_bd hR j.toNat
    omega
  · exact h2
theorem DInv.inTo {l : List Task} (hR : RightT l) {d : List Int} {i : Nat} (h : DInv l d) (hi : i < l.length) : ∀ m, m ≤ (rowAt l i).length → DInv l (dIn l d i ((rowAt l i).take m))
  | 0, _ => by simpa [dIn] using h
  | m + 1, hm => by
    rw [dIn_snoc (by omega)]
    exact (DInv.inTo hR h hi m (by omega)).step hR hi (List.getElem_mem _)
theorem DInv.lenTo {l : List Task} (hR : RightT l) {d : List Int} {i : Nat} (h : DInv l d) (hi : i < l.length) : DInv l (dLen l d i) := by
  unfold dLen
  refine ⟨by rw [List.length_set]; exact h.len, fun k hk => ?_⟩
  have h2 := h.bd k hk
  rw [getD_set_int _ _ _ _ (by rw [h.len]; exact hi)]
  split
  · rename_i e
    subst e
    have := (down_bd hR hk).1
    omega
  · exact h2
theorem DInv.one {l : List Task} (hR : RightT l) {d : List Int} {i : Nat} (h : DInv l d) (hi : i < l.length) : DInv l (dOne l d i) := by
  have := (h.lenTo hR hi).inTo hR hi _ (Nat.le_refl _)
  rwa [List.take_length] at this
theorem DInv.to {l : List Task} (hR : RightT l) {d : List Int} (h : DInv l d) : ∀ k, k ≤ l.length → DInv l (dTo l d k)
  | 0, _ => h
  | k + 1, hk => (DInv.to hR h k (by omega)).one hR (by omega)
theorem DInv.rounds {l : List Task} (hR : RightT l) : ∀ r, DInv l (dRounds l r)
  | 0 => ⟨by simp [dRounds], fun i hi => by
      have := (down_is hR hi).bd hR
      unfold dRounds
      rw [List.getD_eq_getElem?_getD, List.getElem?_replicate, if_pos hi]
      simp only [Option.getD_some]
      omega⟩
  | r + 1 => (DInv.rounds hR r).to hR _ (Nat.le_refl _)
theorem set_max_ge (d : List Int) (j k : Nat) (x : Int) : d.getD k 0 ≤ (d.set j (max (d.getD j 0) x)).getD k 0 := by
  by_cases h : j < d.length
  · rw [getD_set_int _ _ _ _ h]
    split
    · rename_i e; subst e; omega
    · exact Int.le_refl _
  · rw [List.set_eq_of_length_le (by omega)]
    exact Int.le_refl _
theorem dIn_ge {l : List Task} {i : Nat} (k : Nat) : ∀ (r d : List Int), d.getD k 0 ≤ (dIn l d i r).getD k 0
  | [], _ => Int.le_refl _
  | j :: r, d => by
    have h := dIn_ge (l := l) (i := i) k r (d.set j.toNat (max (d.getD j.toNat 0) (lenAt l j.toNat + d.getD i 0)))
    exact Int.le_trans (set_max_ge d j.toNat k _) h
theorem dIn_hit {l : List Task} {i : Nat} : ∀ (r d : List Int) (j : Int), j ∈ r → j.toNat < d.length → lenAt l j.toNat + d.getD i 0 ≤ (dIn l d i r).getD j.toNat 0
  | x :: r, d, j, hj, hl => by
    have hs := dIn_ge (l := l) (i := i) j.toNat r (d.set x.toNat (max (d.getD x.toNat 0) (lenAt l x.toNat + d.getD i 0)))
    rcases List.mem_cons.1 hj with rfl | hj
    · rw [getD_set_int _ _ _ _ hl, if_pos rfl] at hs
      have : dIn l d i (j :: r) = dIn l (d.set j.toNat (max (d.getD j.toNat 0) (lenAt l j.toNat + d.getD i 0))) i r := rfl
      rw [this]
      omega
    · have h := dIn_hit (l := l) (i := i) r (d.set x.toNat (max (d.getD x.toNat 0) (lenAt l x.toNat + d.getD i 0))) j hj (by rw [List.length_set]; exact hl)
      have h2 := set_max_ge d x.toNat i (lenAt l x.toNat + d.getD i 0)
      have : dIn l d i (x :: r) = dIn l (d.set x.toNat (max (d.getD x.toNat 0) (lenAt l x.toNat + d.getD i 0))) i r := rfl
      rw [this]
      omega
theorem dOne_ge {l : List Task} (d : List Int) (i k : Nat) : d.getD k 0 ≤ (dOne l d i).getD k 0 := Int.le_trans (set_max_ge d i k _) (dIn_ge k _ _)
theorem dOne_len {l : List Task} {d : List Int} {i : Nat} (h : i < d.length) : lenAt l i ≤ (dOne l d i).getD i 0 := by
  have h1 := dIn_ge (l := l) (i := i) i (rowAt l i) (dLen l d i)
  have h2 : lenAt l i ≤ (dLen l d i).getD i 0 := by
    unfold dLen
    rw [getD_set_int _ _ _ _ h, if_pos rfl]
    omega
  unfold dOne
  omega
theorem dOne_hit {l : List Task} {d : List Int} {i : Nat} {j : Int} (hj : j ∈ rowAt l i) (hl : j.toNat < d.length) : lenAt l j.toNat + d.getD i 0 ≤ (dOne l d i).getD j.toNat 0 := by
  have h1 := dIn_hit (l := l) (i := i) (rowAt l i) (dLen l d i) j hj (by unfold dLen; rw [List.length_set]; exact hl)
  have h2 := set_max_ge d i i (lenAt l i)
  unfold dOne
  unfold dLen at h1 ⊢
  omega
theorem dTo_ge {l : List Task} (d : List Int) (k : Nat) : ∀ m m', m ≤ m' → (dTo l d m).getD k 0 ≤ (dTo l d m').getD k 0 := by
  intro m m' h
  induction m' with
  | zero =>
    have : m = 0 := by omega
    subst this
    exact Int.le_refl _
  | succ m' ih =>
    by_cases e : m = m' + 1
    · subst e; exact Int.le_refl _
    · exact Int.le_trans (ih (by omega)) (dOne_ge _ _ _)
/-- Chains of at most r tasks are counted. -/
def DLow (l : List Task) (d : List Int) (r : Nat) : Prop := ∀ i z, Chain l (i :: z) → (i :: z).length ≤ r → sumAt l (i :: z) ≤ d.getD i 0
theorem DLow.round {l : List Task} (hR : RightT l) {d : List Int} {r : Nat} (h : DLow l d r) (hd : DInv l d) : DLow l (dTo l d l.length) (r + 1) := by
  intro i z hz hlen
  have hi := hz.1 i (by simp)
  have hmono : ∀ k m, m ≤ l.length → (dTo l d m).getD k 0 ≤ (dTo l d l.length).getD k 0 := fun k m hm => dTo_ge d k m _ hm
  cases z with
  | nil =>
    have h1 : lenAt l i ≤ (dTo l d (i + 1)).getD i 0 := dOne_len (by rw [(hd.to hR i (by omega)).len]; exact hi)
    have h2 := hmono i (i + 1) (by omega)
    rw [sumAt_cons, sumAt_nil]
    omega
  | cons j z =>
    obtain ⟨he, hz'⟩ := Chain.cons_iff.1 hz
    have h1 := h j z hz' (by simp only [List.length_cons] at hlen ⊢; omega)
    have h0 : d.getD j 0 ≤ (dTo l d j).getD j 0 := dTo_ge d j 0 j (Nat.zero_le _)
    have h2 : lenAt l i + (dTo l d j).getD j 0 ≤ (dTo l d (j + 1)).getD i 0 := by
      have := dOne_hit (l := l) (d := dTo l d j) (edge_rowAt hR he) (by rw [(hd.to hR j (by have := he.2.1; omega)).len, Int.toNat_natCast]; exact hi)
      rwa [Int.toNat_natCast] at this
    have h3 := hmono i (j + 1) (by have := he.2.1; omega)
    rw [sumAt_cons]
    omega
theorem DLow.rounds {l : List Task} (hR : RightT l) : ∀ r, DLow l (dRounds l r) r
  | 0 => fun i z _ h => absurd h (by simp)
  | r + 1 => (DLow.rounds hR r).round hR (DInv.rounds hR r)
theorem rounds_down {l : List Task} (hR : RightT l) {i : Nat} (hi : i < l.length) : (dRounds l l.length).getD i 0 = downI l i := by
  have h1 := ((DInv.rounds hR l.length).bd i hi).2
  obtain ⟨z, hz, hs⟩ := (down_is hR hi).has
  have h2 := DLow.rounds hR l.length i z hz (hz.short hR)
  omega

end Go.Proofs.YtfcfphamecbcgaaGreat

/- the reference's Critical. -/
namespace Go.Proofs.YtfcfphamecbcgaaGreat
open Go.RowKit Go.Shelf

/-- What the reference's Critical leaves. -/
def RefCritPost (l : List Task) (w : World) (e : Ending) (w' : World) : Prop :=
  Below w.heap.size w w' ∧ ∃ A cap, e = .returned (.slice A (critL l l.length).length cap) ∧ w'.ownsRow w.heap.size 9 1 (.slice A (critL l l.length).length cap) (critL l l.length).length ((critL l l.length).map Value.string)

/-- The row of the sums. -/
def OwnD (w : World) (O2 n : Nat) (d : List Int) : Prop := w.ownsRow O2 3 1 (.slice (some ⟨O2, 0, none⟩) n n) n (d.map (Value.int .i64))
theorem OwnD.cell {w : World} {O2 n : Nat} {d : List Int} (h : OwnD w O2 n d) (hd : d.length = n) {i : Nat} (hi : i < n) : w.cell? ⟨O2, i, none⟩ = some (.int .i64 (d.getD i 0)) := by
  rw [World.ownsRow.cellAt h i (by omega), List.getElem?_map, List.getElem?_eq_getElem (by omega), getD_get d i (by omega)]
  rfl
theorem OwnD.frozen {w : World} {O2 n : Nat} {d : List Int} (h : OwnD w O2 n d) (i : Nat) : w.frozen? ⟨O2, i, none⟩ = false := World.ownsRow.frozenAt h i
theorem OwnD.set_ {w : World} {O2 n : Nat} {d : List Int} (h : OwnD w O2 n d) (i : Nat) (x : Int) : OwnD (w.setCell ⟨O2, i, none⟩ (.int .i64 x)) O2 n (d.set i x) := by
  unfold OwnD
  rw [List.map_set]
  exact (World.ownsRow.stored h i _).1
theorem OwnD.drewN {w : World} {O2 n : Nat} {d : List Int} (h : OwnD w O2 n d) (q : Nat) : OwnD (w.drewN q) O2 n d := own_drewN h q
theorem OwnD.lt {w : World} {O2 n : Nat} {d : List Int} (h : OwnD w O2 n d) : O2 < w.heap.size := (World.ownsRow.lt h O2 rfl).2
theorem OwnD.below {w w' : World} {O2 n : Nat} {d : List Int} (h : OwnD w O2 n d) (hb : Below w.heap.size w w') : OwnD w' O2 n d := World.ownsRow.kept h (grown_below (row := none) hb) (by simp [Value.ownBlock])

theorem pls_len {l : List Task} {L : List ByteArray} : (pls l L).length = L.length := by simp [pls]

end Go.Proofs.YtfcfphamecbcgaaGreat
