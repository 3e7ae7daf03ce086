/- Parts of the proof, laid into one text: CritP, Crit, CritW, RefCrit. -/
import Derived.Test.YtcjejcbikgcnbaaG2
import Derived.Test.YtcjejcbikgcnbaaG4
import Derived.Test.YtcjejcbikgcnbaaG8

/- Critical tasks, plain: the longest chains that end, and that begin, with a task. No program in sight. -/
namespace Go.Proofs.Ytcjejcbikgcnbaa

/-! ### Chains that end with a task -/
/-- The greatest sum of a chain that ends with a task. -/
def upI (l : List Task) (i : Nat) : Int := ((chainsF l).getD []).getD i 0
theorem up_fixed {l : List Task} (hR : RightT l) : ∃ x, chainsF l = some x ∧ x.length = l.length ∧ Fixed (lens l) (rowsOf l) l.length x := by
  have h := (right_iff l).2 hR
  unfold rightR at h
  rw [Bool.and_eq_true] at h
  obtain ⟨x, hx⟩ := Option.isSome_iff_exists.1 h.2
  obtain ⟨h1, h2⟩ := cIter_fixed _ _ _ (by simp) hx
  exact ⟨x, hx, h1, h2⟩
/-- The greatest among the tasks of a row. -/
def maxOf (f : Nat → Int) (r : List Int) : Int := r.foldl (fun a k => max a (f k.toNat)) 0
theorem foldl_shift (f : Int → Int) (c : Int) : ∀ (r : List Int) (a : Int), r.foldl (fun n j => max n (c + f j)) (c + a) = c + r.foldl (fun n j => max n (f j)) a
  | [], a => rfl
  | x :: r, a => by
    rw [List.foldl_cons, List.foldl_cons, show max (c + a) (c + f x) = c + max a (f x) by omega]
    exact foldl_shift f c r _
theorem maxOf_snoc {f : Nat → Int} {r : List Int} {m : Nat} (h : m < r.length) : maxOf f (r.take (m + 1)) = max (maxOf f (r.take m)) (f r[m].toNat) := by
  unfold maxOf
  rw [take_snoc r m h, List.foldl_append]
  rfl
theorem maxOf_ge {f : Nat → Int} {r : List Int} : 0 ≤ maxOf f r ∧ ∀ j ∈ r, f j.toNat ≤ maxOf f r := by
  suffices H : ∀ a, a ≤ r.foldl (fun a k => max a (f k.toNat)) a ∧ ∀ j ∈ r, f j.toNat ≤ r.foldl (fun a k => max a (f k.toNat)) a from H 0
  induction r with
  | nil => exact fun a => ⟨Int.le_refl _, by simp⟩
  | cons x r ih =>
    intro a
    have h := ih (max a (f x.toNat))
    rw [List.foldl_cons]
    refine ⟨by have := h.1; omega, fun j hj => ?_⟩
    rcases List.mem_cons.1 hj with rfl | hj
    · have := h.1; omega
    · exact h.2 j hj
theorem maxOf_has {f : Nat → Int} {r : List Int} : maxOf f r = 0 ∨ ∃ j ∈ r, maxOf f r = f j.toNat := by
  suffices H : ∀ a, r.foldl (fun a k => max a (f k.toNat)) a = a ∨ ∃ j ∈ r, r.foldl (fun a k => max a (f k.toNat)) a = f j.toNat from H 0
  induction r with
  | nil => exact fun a => .inl rfl
  | cons x r ih =>
    intro a
    rw [List.foldl_cons]
    rcases ih (max a (f x.toNat)) with h | ⟨j, hj, h⟩
    · by_cases e : a ≤ f x.toNat
      · exact .inr ⟨x, by simp, by omega⟩
      · exact .inl (by omega)
    · exact .inr ⟨j, by simp [hj], h⟩
theorem up_eq {l : List Task} (hR : RightT l) {i : Nat} (hi : i < l.length) : upI l i = maxOf (upI l) (rowAt l i) + lenAt l i := by
  obtain ⟨x, hx, hl, hf⟩ := up_fixed hR
  have hu : ∀ j, upI l j = x.getD j 0 := fun j => by unfold upI; rw [hx]; rfl
  have h := hf i hi
  unfold cVal at h
  have h2 := foldl_shift (fun j : Int => x.getD j.toNat 0) ((lens l).getD i 0) ((rowsOf l).getD i []) 0
  rw [Int.add_zero] at h2
  rw [hu, h, h2]
  unfold maxOf lenAt rowAt
  rw [show (fun (a k : Int) => max a (upI l k.toNat)) = fun n j => max n (x.getD j.toNat 0) from funext fun a => funext fun k => by rw [hu]]
  omega
theorem row_edge {l : List Task} (hR : RightT l) {i : Nat} (hi : i < l.length) {k : Int} (hk : k ∈ rowAt l i) : edge l k.toNat i := by
  have hrow : rowAt l i = pls l l[i].bef := getD_rows hi
  rw [hrow] at hk
  unfold pls at hk
  rw [List.mem_map] at hk
  obtain ⟨s, hs, rfl⟩ := hk
  obtain ⟨j, hj, e, he⟩ := pl_mem (((befOK_iff l).1 hR.bef l[i] (List.getElem_mem hi)).2 s hs).1
  rw [e, Int.toNat_natCast]
  exact ⟨hj, hi, by rw [he]; exact hs⟩
theorem edge_rowAt {l : List Task} (hR : RightT l) {i k : Nat} (h : edge l i k) : (i : Int) ∈ rowAt l k := edge_row hR.dist h
theorem up_most {l : List Task} (hR : RightT l) : ∀ (n : Nat) {z : List Nat} {i : Nat}, z.length = n → Chain l (z ++ [i]) → sumAt l (z ++ [i]) ≤ upI l i
  | 0, z, i, hz, h => by
    have : z = [] := List.length_eq_zero_iff.1 hz
    subst this
    have hi := h.1 i (by simp)
    rw [up_eq hR hi]
    have := (maxOf_ge (f := upI l) (r := rowAt l i)).1
    rw [sumAt_snoc, sumAt_nil]
    omega
  | n + 1, z, i, hz, h => by
    have hne : z ≠ [] := fun e => by rw [e] at hz; simp at hz
    have hi := h.1 i (by simp)
    have he := h.last_edge hne
    have h1 := up_most hR n (z := z.dropLast) (i := z.getLast hne) (by rw [List.length_dropLast]; omega) (by rw [List.dropLast_concat_getLast hne]; exact h.front)
    rw [List.dropLast_concat_getLast hne] at h1
    have h2 := (maxOf_ge (f := upI l) (r := rowAt l i)).2 _ (edge_rowAt hR he)
    rw [Int.toNat_natCast] at h2
    rw [up_eq hR hi, sumAt_snoc]
    omega
theorem up_has {l : List Task} (hR : RightT l) : ∀ (i : Nat), i < l.length → ∃ z, Chain l (z ++ [i]) ∧ sumAt l (z ++ [i]) = upI l i := by
  obtain ⟨rank, hr⟩ := hR.acyc
  suffices H : ∀ (n i : Nat), rank i < n → i < l.length → ∃ z, Chain l (z ++ [i]) ∧ sumAt l (z ++ [i]) = upI l i from fun i hi => H (rank i + 1) i (by omega) hi
  intro n
  induction n with
  | zero => intro i h; omega
  | succ n ih =>
    intro i hn hi
    rw [up_eq hR hi]
    rcases maxOf_has (f := upI l) (r := rowAt l i) with h | ⟨k, hk, h⟩
    · exact ⟨[], Chain.one hi, by rw [sumAt_snoc, sumAt_nil, h]⟩
    · have he := row_edge hR hi hk
      have h3 := hr i hi k hk
      obtain ⟨z, hz, hs⟩ := ih k.toNat (by omega) he.1
      refine ⟨z ++ [k.toNat], hz.snoc hi (fun _ => by rw [List.getLast_append_of_ne_nil _ (by simp)]; exact he), ?_⟩
      rw [sumAt_snoc, hs, h]
theorem up_bd {l : List Task} (hR : RightT l) {i : Nat} (hi : i < l.length) : lenAt l i ≤ upI l i ∧ upI l i ≤ 80000 := by
  obtain ⟨z, hz, hs⟩ := up_has hR i hi
  have h1 := sumAt_bd hR (z ++ [i])
  have h2 := hz.short hR
  have h3 := hR.len
  have h4 := up_eq hR hi
  have h5 := (maxOf_ge (f := upI l) (r := rowAt l i)).1
  omega

/-! ### Chains that begin with a task -/
/-- The greatest sum of a chain that begins with a task. -/
noncomputable def downI (l : List Task) (i : Nat) : Int := @Classical.epsilon Int ⟨0⟩ (IsFrom l i)
theorem down_is {l : List Task} (hR : RightT l) {i : Nat} (hi : i < l.length) : IsFrom l i (downI l i) :=
  @Classical.epsilon_spec Int (IsFrom l i) (exists_from hR l.length i hi fun _ hz => hz.short hR)
theorem down_bd {l : List Task} (hR : RightT l) {i : Nat} (hi : i < l.length) : lenAt l i ≤ downI l i ∧ downI l i ≤ 80000 := by
  have h := down_is hR hi
  have h1 := h.most [] (Chain.one hi)
  rw [sumAt_cons, sumAt_nil] at h1
  have := h.bd hR
  omega
theorem down_edge {l : List Task} (hR : RightT l) {i j : Nat} (h : edge l i j) : lenAt l i + downI l j ≤ downI l i := by
  obtain ⟨z, hz, hs⟩ := (down_is hR h.2.1).has
  have := (down_is hR h.1).most (j :: z) (Chain.cons_iff.2 ⟨h, hz⟩)
  rw [sumAt_cons, hs] at this
  exact this

/-! ### Critical tasks -/
noncomputable def critI (l : List Task) (i : Nat) : Int := upI l i + downI l i - lenAt l i
noncomputable def critTo (l : List Task) : Nat → Int
  | 0 => 0
  | k + 1 => max (critTo l k) (critI l k)
def upTo (l : List Task) : Nat → Int
  | 0 => 0
  | k + 1 => max (upTo l k) (upI l k)
theorem crit_bd {l : List Task} (hR : RightT l) {i : Nat} (hi : i < l.length) : upI l i ≤ critI l i ∧ 0 ≤ critI l i ∧ critI l i ≤ 160000 := by
  have h1 := up_bd hR hi
  have h2 := down_bd hR hi
  have h3 := lenAt_bd hR i
  unfold critI
  omega
theorem critTo_bd {l : List Task} (hR : RightT l) : ∀ k, k ≤ l.length → 0 ≤ critTo l k ∧ critTo l k ≤ 160000 ∧ ∀ i, i < k → critI l i ≤ critTo l k
  | 0, _ => by simp [critTo]
  | k + 1, hk => by
    have h := critTo_bd hR k (by omega)
    have h1 := crit_bd hR (show k < l.length by omega)
    rw [critTo]
    refine ⟨by omega, by omega, fun i hi => ?_⟩
    by_cases e : i = k
    · subst e; omega
    · have := h.2.2 i (by omega); omega
theorem upTo_bd {l : List Task} (hR : RightT l) : ∀ k, k ≤ l.length → 0 ≤ upTo l k ∧ upTo l k ≤ 80000 ∧ ∀ i, i < k → upI l i ≤ upTo l k
  | 0, _ => by simp [upTo]
  | k + 1, hk => by
    have h := upTo_bd hR k (by omega)
    have h1 := up_bd hR (show k < l.length by omega)
    rw [upTo]
    refine ⟨by omega, by omega, fun i hi => ?_⟩
    by_cases e : i = k
    · subst e; omega
    · have := h.2.2 i (by omega); omega
theorem Chain.join {l : List Task} {z : List Nat} {i : Nat} {x : List Nat} (h : Chain l (z ++ [i])) (h' : Chain l (i :: x)) : Chain l (z ++ i :: x) := by
  induction z with
  | nil => exact h'
  | cons a z ih =>
    cases z with
    | nil => exact Chain.cons_iff.2 ⟨(Chain.cons_iff.1 h).1, h'⟩
    | cons b z =>
      have := Chain.cons_iff.1 (show Chain l (a :: b :: (z ++ [i])) from h)
      exact Chain.cons_iff.2 ⟨this.1, ih this.2⟩
/-- Through a task no chain is longer than the longest. -/
theorem crit_le {l : List Task} (hR : RightT l) {i : Nat} (hi : i < l.length) : critI l i ≤ upTo l l.length := by
  obtain ⟨z, hz, hs⟩ := up_has hR i hi
  obtain ⟨x, hx, hs'⟩ := (down_is hR hi).has
  have hj := hz.join hx
  have hsum : sumAt l (z ++ i :: x) = critI l i := by
    rw [sumAt_snoc] at hs
    rw [sumAt_append]
    unfold critI
    omega
  have hne : z ++ i :: x ≠ [] := by simp
  have h1 := up_most hR _ (z := (z ++ i :: x).dropLast) (i := (z ++ i :: x).getLast hne) rfl (by rw [List.dropLast_concat_getLast hne]; exact hj)
  rw [List.dropLast_concat_getLast hne, hsum] at h1
  have h2 := (upTo_bd hR l.length (Nat.le_refl _)).2.2 _ (hj.1 _ (List.getLast_mem hne))
  omega
theorem crit_up {l : List Task} (hR : RightT l) : critTo l l.length = upTo l l.length := by
  suffices H : ∀ k, k ≤ l.length → upTo l k ≤ critTo l k ∧ critTo l k ≤ upTo l l.length by
    have := H l.length (Nat.le_refl _); omega
  intro k
  induction k with
  | zero => exact fun _ => ⟨Int.le_refl _, by have := (upTo_bd hR l.length (Nat.le_refl _)).1; exact this⟩
  | succ k ih =>
    intro hk
    have h := ih (by omega)
    have h1 := crit_bd hR (show k < l.length by omega)
    have h2 := crit_le hR (show k < l.length by omega)
    rw [upTo, critTo]
    omega
/-- The names of the critical tasks below k. -/
noncomputable def critL (l : List Task) : Nat → List ByteArray
  | 0 => []
  | k + 1 => if critI l k = upTo l l.length then critL l k ++ [(names l).getD k ⟨#[]⟩] else critL l k
theorem critL_len {l : List Task} : ∀ k, (critL l k).length ≤ k
  | 0 => by simp [critL]
  | k + 1 => by
    have := critL_len (l := l) k
    unfold critL
    split
    · simp; omega
    · omega

/-! ### The reference's rounds -/
def dIn (l : List Task) (d : List Int) (i : Nat) (r : List Int) : List Int := r.foldl (fun d j => d.set j.toNat (max (d.getD j.toNat 0) (lenAt l j.toNat + d.getD i 0))) d
def dLen (l : List Task) (d : List Int) (i : Nat) : List Int := d.set i (max (d.getD i 0) (lenAt l i))
def dOne (l : List Task) (d : List Int) (i : Nat) : List Int := dIn l (dLen l d i) i (rowAt l i)
def dTo (l : List Task) (d : List Int) : Nat → List Int
  | 0 => d
  | k + 1 => dOne l (dTo l d k) k
def dRounds (l : List Task) : Nat → List Int
  | 0 => List.replicate l.length 0
  | r + 1 => dTo l (dRounds l r) l.length
theorem dIn_snoc {l : List Task} {d : List Int} {i : Nat} {r : List Int} {m : Nat} (h : m < r.length) : dIn l d i (r.take (m + 1)) = (dIn l d i (r.take m)).set r[m].toNat (max ((dIn l d i (r.take m)).getD r[m].toNat 0) (lenAt l r[m].toNat + (dIn l d i (r.take m)).getD i 0)) := by
  unfold dIn
  rw [take_snoc r m h, List.foldl_append]
  rfl
/-- What holds of all lists on the way. -/
structure DInv (l : List Task) (d : List Int) : Prop where
  len : d.length = l.length
  bd : ∀ i, i < l.length → 0 ≤ d.getD i 0 ∧ d.getD i 0 ≤ downI l i
theorem DInv.step {l : List Task} (hR : RightT l) {d : List Int} {i : Nat} (h : DInv l d) (hi : i < l.length) {j : Int} (hj : j ∈ rowAt l i) : DInv l (d.set j.toNat (max (d.getD j.toNat 0) (lenAt l j.toNat + d.getD i 0))) := by
  have he := row_edge hR hi hj
  have hd := down_edge hR he
  have h1 := h.bd i hi
  refine ⟨by rw [List.length_set]; exact h.len, fun k hk => ?_⟩
  have h2 := h.bd k hk
  rw [getD_set_int _ _ _ _ (by rw [h.len]; exact he.1)]
  split
  · rename_i e
    subst e
    have := lenAt_bd hR j.toNat
    omega
  · exact h2
theorem DInv.inTo {l : List Task} (hR : RightT l) {d : List Int} {i : Nat} (h : DInv l d) (hi : i < l.length) : ∀ m, m ≤ (rowAt l i).length → DInv l (dIn l d i ((rowAt l i).take m))
  | 0, _ => by simpa [dIn] using h
  | m + 1, hm => by
    rw [dIn_snoc (by omega)]
    exact (DInv.inTo hR h hi m (by omega)).step hR hi (List.getElem_mem _)
theorem DInv.lenTo {l : List Task} (hR : RightT l) {d : List Int} {i : Nat} (h : DInv l d) (hi : i < l.length) : DInv l (dLen l d i) := by
  unfold dLen
  refine ⟨by rw [List.length_set]; exact h.len, fun k hk => ?_⟩
  have h2 := h.bd k hk
  rw [getD_set_int _ _ _ _ (by rw [h.len]; exact hi)]
  split
  · rename_i e
    subst e
    have := (down_bd hR hk).1
    omega
  · exact h2
theorem DInv.one {l : List Task} (hR : RightT l) {d : List Int} {i : Nat} (h : DInv l d) (hi : i < l.length) : DInv l (dOne l d i) := by
  have := (h.lenTo hR hi).inTo hR hi _ (Nat.le_refl _)
  rwa [List.take_length] at this
theorem DInv.to {l : List Task} (hR : RightT l) {d : List Int} (h : DInv l d) : ∀ k, k ≤ l.length → DInv l (dTo l d k)
  | 0, _ => h
  | k + 1, hk => (DInv.to hR h k (by omega)).one hR (by omega)
theorem DInv.rounds {l : List Task} (hR : RightT l) : ∀ r, DInv l (dRounds l r)
  | 0 => ⟨by simp [dRounds], fun i hi => by
      have := (down_is hR hi).bd hR
      unfold dRounds
      rw [List.getD_eq_getElem?_getD, List.getElem?_replicate, if_pos hi]
      simp only [Option.getD_some]
      omega⟩
  | r + 1 => (DInv.rounds hR r).to hR _ (Nat.le_refl _)
theorem set_max_ge (d : List Int) (j k : Nat) (x : Int) : d.getD k 0 ≤ (d.set j (max (d.getD j 0) x)).getD k 0 := by
  by_cases h : j < d.length
  · rw [getD_set_int _ _ _ _ h]
    split
    · rename_i e; subst e; omega
    · exact Int.le_refl _
  · rw [List.set_eq_of_length_le (by omega)]
    exact Int.le_refl _
theorem dIn_ge {l : List Task} {i : Nat} (k : Nat) : ∀ (r d : List Int), d.getD k 0 ≤ (dIn l d i r).getD k 0
  | [], _ => Int.le_refl _
  | j :: r, d => by
    have h := dIn_ge (l := l) (i := i) k r (d.set j.toNat (max (d.getD j.toNat 0) (lenAt l j.toNat + d.getD i 0)))
    exact Int.le_trans (set_max_ge d j.toNat k _) h
theorem dIn_hit {l : List Task} {i : Nat} : ∀ (r d : List Int) (j : Int), j ∈ r → j.toNat < d.length → lenAt l j.toNat + d.getD i 0 ≤ (dIn l d i r).getD j.toNat 0
  | x :: r, d, j, hj, hl => by
    have hs := dIn_ge (l := l) (i := i) j.toNat r (d.set x.toNat (max (d.getD x.toNat 0) (lenAt l x.toNat + d.getD i 0)))
    rcases List.mem_cons.1 hj with rfl | hj
    · rw [getD_set_int _ _ _ _ hl, if_pos rfl] at hs
      have : dIn l d i (j :: r) = dIn l (d.set j.toNat (max (d.getD j.toNat 0) (lenAt l j.toNat + d.getD i 0))) i r := rfl
      rw [this]
      omega
    · have h := dIn_hit (l := l) (i := i) r (d.set x.toNat (max (d.getD x.toNat 0) (lenAt l x.toNat + d.getD i 0))) j hj (by rw [List.length_set]; exact hl)
      have h2 := set_max_ge d x.toNat i (lenAt l x.toNat + d.getD i 0)
      have : dIn l d i (x :: r) = dIn l (d.set x.toNat (max (d.getD x.toNat 0) (lenAt l x.toNat + d.getD i 0))) i r := rfl
      rw [this]
      omega
theorem dOne_ge {l : List Task} (d : List Int) (i k : Nat) : d.getD k 0 ≤ (dOne l d i).getD k 0 := Int.le_trans (set_max_ge d i k _) (dIn_ge k _ _)
theorem dOne_len {l : List Task} {d : List Int} {i : Nat} (h : i < d.length) : lenAt l i ≤ (dOne l d i).getD i 0 := by
  have h1 := dIn_ge (l := l) (i := i) i (rowAt l i) (dLen l d i)
  have h2 : lenAt l i ≤ (dLen l d i).getD i 0 := by
    unfold dLen
    rw [getD_set_int _ _ _ _ h, if_pos rfl]
    omega
  unfold dOne
  omega
theorem dOne_hit {l : List Task} {d : List Int} {i : Nat} {j : Int} (hj : j ∈ rowAt l i) (hl : j.toNat < d.length) : lenAt l j.toNat + d.getD i 0 ≤ (dOne l d i).getD j.toNat 0 := by
  have h1 := dIn_hit (l := l) (i := i) (rowAt l i) (dLen l d i) j hj (by unfold dLen; rw [List.length_set]; exact hl)
  have h2 := set_max_ge d i i (lenAt l i)
  unfold dOne
  unfold dLen at h1 ⊢
  omega
theorem dTo_ge {l : List Task} (d : List Int) (k : Nat) : ∀ m m', m ≤ m' → (dTo l d m).getD k 0 ≤ (dTo l d m').getD k 0 := by
  intro m m' h
  induction m' with
  | zero =>
    have : m = 0 := by omega
    subst this
    exact Int.le_refl _
  | succ m' ih =>
    by_cases e : m = m' + 1
    · subst e; exact Int.le_refl _
    · exact Int.le_trans (ih (by omega)) (dOne_ge _ _ _)
/-- Chains of at most r tasks are counted. -/
def DLow (l : List Task) (d : List Int) (r : Nat) : Prop := ∀ i z, Chain l (i :: z) → (i :: z).length ≤ r → sumAt l (i :: z) ≤ d.getD i 0
theorem DLow.round {l : List Task} (hR : RightT l) {d : List Int} {r : Nat} (h : DLow l d r) (hd : DInv l d) : DLow l (dTo l d l.length) (r + 1) := by
  intro i z hz hlen
  have hi := hz.1 i (by simp)
  have hmono : ∀ k m, m ≤ l.length → (dTo l d m).getD k 0 ≤ (dTo l d l.length).getD k 0 := fun k m hm => dTo_ge d k m _ hm
  cases z with
  | nil =>
    have h1 : lenAt l i ≤ (dTo l d (i + 1)).getD i 0 := dOne_len (by rw [(hd.to hR i (by omega)).len]; exact hi)
    have h2 := hmono i (i + 1) (by omega)
    rw [sumAt_cons, sumAt_nil]
    omega
  | cons j z =>
    obtain ⟨he, hz'⟩ := Chain.cons_iff.1 hz
    have h1 := h j z hz' (by simp only [List.length_cons] at hlen ⊢; omega)
    have h0 : d.getD j 0 ≤ (dTo l d j).getD j 0 := dTo_ge d j 0 j (Nat.zero_le _)
    have h2 : lenAt l i + (dTo l d j).getD j 0 ≤ (dTo l d (j + 1)).getD i 0 := by
      have := dOne_hit (l := l) (d := dTo l d j) (edge_rowAt hR he) (by rw [(hd.to hR j (by have := he.2.1; omega)).len, Int.toNat_natCast]; exact hi)
      rwa [Int.toNat_natCast] at this
    have h3 := hmono i (j + 1) (by have := he.2.1; omega)
    rw [sumAt_cons]
    omega
theorem DLow.rounds {l : List Task} (hR : RightT l) : ∀ r, DLow l (dRounds l r) r
  | 0 => fun i z _ h => absurd h (by simp)
  | r + 1 => (DLow.rounds hR r).round hR (DInv.rounds hR r)
theorem rounds_down {l : List Task} (hR : RightT l) {i : Nat} (hi : i < l.length) : (dRounds l l.length).getD i 0 = downI l i := by
  have h1 := ((DInv.rounds hR l.length).bd i hi).2
  obtain ⟨z, hz, hs⟩ := (down_is hR hi).has
  have h2 := DLow.rounds hR l.length i z hz (hz.short hR)
  omega

end Go.Proofs.Ytcjejcbikgcnbaa

/- schedule.Critical's closures. -/
namespace Go.Proofs.Ytcjejcbikgcnbaa
open Go.RowKit Go.Shelf

theorem entersUp : ∀ args w, (callFunc 92 args).run Try.prog w = .ok (.enter 92 args) w := enters_of Try.func92 (by kernel_rfl) rfl
theorem entersDown : ∀ args w, (callFunc 93 args).run Try.prog w = .ok (.enter 93 args) w := enters_of Try.func93 (by kernel_rfl) rfl

/-- What the closures read. -/
structure CritSt (w : World) (B : Nat) (l : List Task) (tv : Value) (O Lb Bb Ub Db : Nat) : Prop where
  tasks : TasksAt w B tv l
  hL : w.cell? ⟨Lb, 0, none⟩ = some tv
  hB : w.cell? ⟨Bb, 0, none⟩ = some (.slice (some ⟨O, 0, none⟩) l.length l.length)
  hU : w.cell? ⟨Ub, 0, none⟩ = some (.func (.func 92) #[] #[.pointer (some ⟨Bb, 0, none⟩), .pointer (some ⟨Ub, 0, none⟩), .pointer (some ⟨Lb, 0, none⟩)])
  hD : w.cell? ⟨Db, 0, none⟩ = some (.func (.func 93) #[] #[.pointer (some ⟨Lb, 0, none⟩), .pointer (some ⟨Bb, 0, none⟩), .pointer (some ⟨Db, 0, none⟩)])
  row : ∀ i (hi : i < l.length), ∃ v, w.cell? ⟨O, i, none⟩ = some v ∧ IntsAt w B v (pls l l[i].bef)
  lt : O < B ∧ Lb < B ∧ Bb < B ∧ Ub < B ∧ Db < B
theorem CritSt.below {w w' : World} {B : Nat} {l : List Task} {tv : Value} {O Lb Bb Ub Db : Nat} (h : CritSt w B l tv O Lb Bb Ub Db) (hb : Below B w w') : CritSt w' B l tv O Lb Bb Ub Db := by
  obtain ⟨l1, l2, l3, l4, l5⟩ := h.lt
  refine ⟨h.tasks.below hb (Nat.le_refl _), (hb.cell (p := ⟨Lb, 0, none⟩) l2).trans h.hL, (hb.cell (p := ⟨Bb, 0, none⟩) l3).trans h.hB, (hb.cell (p := ⟨Ub, 0, none⟩) l4).trans h.hU, (hb.cell (p := ⟨Db, 0, none⟩) l5).trans h.hD, fun i hi => ?_, h.lt⟩
  obtain ⟨v, h1, h2⟩ := h.row i hi
  exact ⟨v, (hb.cell (p := ⟨O, i, none⟩) l1).trans h1, h2.below hb (Nat.le_refl _)⟩

set_option maxRecDepth 100000 in
set_option maxHeartbeats 2000000 in
theorem critUp (B : Nat) (l : List Task) (tv : Value) (O Lb Bb Ub Db : Nat) (w : World) (hR : RightT l) (h : CritSt w B l tv O Lb Bb Ub Db) (rank : Nat → Nat) (hr : ∀ k, k < l.length → ∀ j ∈ (rowsOf l).getD k [], rank j.toNat < rank k) : ∀ (n i : Nat), rank i < n → i < l.length →
    Calls Try.prog 92 #[.int .i64 i, .pointer (some ⟨Bb, 0, none⟩), .pointer (some ⟨Ub, 0, none⟩), .pointer (some ⟨Lb, 0, none⟩)] w fun e w' => e = .returned (.int .i64 (upI l i)) ∧ w = w' := by
  intro n
  induction n with
  | zero => intro i h; omega
  | succ n ih =>
    intro i hn hi
    have h8 := hR.len
    have hE := up_eq hR hi
    have hu := up_bd hR hi
    have hlb := lenAt_bd hR i
    have hrow : rowAt l i = pls l l[i].bef := getD_rows hi
    have HE : Hid (upI l i = maxOf (upI l) (pls l l[i].bef) + l[i].len) := by unfold Hid; rw [hE, hrow, lenAt_eq hi]
    have HIH : Hid (∀ m (hm : m < (pls l l[i].bef).length), ∃ j : Nat, (pls l l[i].bef)[m] = (j : Int) ∧ upI l j ≤ 80000 ∧ 0 ≤ upI l j ∧ Calls Try.prog 92 #[.int .i64 j, .pointer (some ⟨Bb, 0, none⟩), .pointer (some ⟨Ub, 0, none⟩), .pointer (some ⟨Lb, 0, none⟩)] w fun e w' => e = .returned (.int .i64 (upI l j)) ∧ w = w') := fun m hm => by
      have hmem := List.getElem_mem hm
      obtain ⟨j, hj, e⟩ := mem_row hR hi hmem
      have h1 := hr i hi _ (by rw [show (rowsOf l).getD i [] = pls l l[i].bef from hrow]; exact hmem)
      rw [e, Int.toNat_natCast] at h1
      have h2 := up_bd hR hj
      have h3 := lenAt_bd hR j
      exact ⟨j, e, h2.2, by omega, ih j (by omega) hj⟩
    obtain ⟨vr, hvr, hrw⟩ := h.row i hi
    have x1 := h.hB
    have x2 := h.hU
    have x3 := h.hL
    obtain ⟨A, cc, rfl, hA1, hA2, hct⟩ := h.tasks.open_
    obtain ⟨b0, off0, rfl, hb0, hct⟩ := hct i hi
    obtain ⟨-, t1, -, -, -⟩ := hct i hi
    obtain ⟨A1, c1, rfl, hB1, hB2, hBc⟩ := hrw.open_
    unfold maxLen at hA2 hB2
    have HC := Lib.hid hBc
    have hln := fieldB_len (hR.field i hi)
    have i1 : (0 : Int) ≤ (i : Int) := Int.natCast_nonneg _
    have i2 : (i : Int) < (l.length : Int) := by omega
    have hrl : (pls l l[i].bef).length ≤ 8 := by
      have := ((befOK_iff l).1 hR.bef l[i] (List.getElem_mem hi)).le
      have h2 : (pls l l[i].bef).length = l[i].bef.length := by simp [pls]
      omega
    have eg := entersUp
    clear ih h hBc hct hrow hR hr hrw hE hlb hu
    generalize pls l l[i].bef = row at *
    generalize l[i].len = ln at *
    go_enter Try.func92, Try.ntmps92
    go_wp2_with fail
    go_loopw [14, 6] (fun ix m wr => ∃ k : Nat, k ≤ row.length ∧ ix = .int .i64 k ∧ m = .int .i64 (maxOf (upI l) (row.take k)) ∧ Hid (0 ≤ maxOf (upI l) (row.take k) ∧ maxOf (upI l) (row.take k) ≤ 80000) ∧ w = wr) (fun ix _ _ => row.length - (intOf ix).toNat)
    case atStart => exact ⟨0, Nat.zero_le _, rfl, rfl, by unfold Hid; simp [maxOf], rfl⟩
    case round =>
      obtain ⟨k, hk, rfl, rfl, HBd, rfl⟩ := hrel
      have hbd := HBd.out
      by_cases hkl : k < row.length
      · obtain ⟨j, he, hj1, hj2, hcall⟩ := HIH.out k hkl
        obtain ⟨b1, off1, rfl, hb1, hc1⟩ := HC.out k hkl
        have z1 := hc1 k hkl
        rw [he] at z1
        have HS : Hid (maxOf (upI l) (row.take (k + 1)) = max (maxOf (upI l) (row.take k)) (upI l j)) := by unfold Hid; rw [maxOf_snoc hkl, he, Int.toNat_natCast]
        have i3 : (0 : Int) ≤ (k : Int) := Int.natCast_nonneg _
        have i4 : (k : Int) < (row.length : Int) := by omega
        clear he hc1
        generalize upI l j = uj at *
        generalize maxOf (upI l) (row.take k) = mm at *
        have HBd' : Hid (0 ≤ max mm uj ∧ max mm uj ≤ 80000) := by unfold Hid; omega
        rw [← HS.out] at HBd'
        go_wp2_with (go_at_fn 92; refine hcall.mono ?_; rintro e w' ⟨rfl, rfl⟩)
        all_goals
          go_roundw
          case rel => exact ⟨k + 1, by omega, by go_num, by rw [HS.out], HBd', by trivial⟩
          case measure => simp [intOf]; omega
      · have hke : k = row.length := by omega
        subst hke
        rw [List.take_length] at hbd HBd ⊢
        have w1 : IntKind.i64.wrap (maxOf (upI l) row + ln) = maxOf (upI l) row + ln := IntWalk.i64_in _ (by omega)
        go_wp2_with fail
        go_ret
        exact ⟨ret_int HE.out.symm, rfl⟩

set_option maxRecDepth 100000 in
set_option maxHeartbeats 2000000 in
theorem critDown (B : Nat) (l : List Task) (tv : Value) (O Lb Bb Ub Db : Nat) (w : World) (hR : RightT l) (h : CritSt w B l tv O Lb Bb Ub Db) : ∀ (f i : Nat), i < l.length → (∀ z, Chain l (i :: z) → (i :: z).length ≤ f) →
    Calls Try.prog 93 #[.int .i64 i, .pointer (some ⟨Lb, 0, none⟩), .pointer (some ⟨Bb, 0, none⟩), .pointer (some ⟨Db, 0, none⟩)] w fun e w' => e = .returned (.int .i64 (downI l i)) ∧ w = w' := by
  intro f
  induction f with
  | zero => intro i hi hz; have := hz [] (Chain.one hi); simp at this
  | succ f ih =>
    intro i hi hch
    have h8 := hR.len
    have HDI : Hid (∀ n, MostTo l i l.length n → downI l i = l[i].len + n) := fun n hn => by
      have h1 := isFrom_of_most hi hn (fun j he => ⟨_, down_is hR he.2.1⟩)
      exact (down_is hR hi).uniq h1
    have HIs : Hid (∀ j, j < l.length → IsFrom l j (downI l j)) := fun j hj => down_is hR hj
    have HBd : Hid (∀ j, j < l.length → 0 ≤ downI l j ∧ downI l j ≤ 80000) := fun j hj => (down_is hR hj).bd hR
    have IH : Hid (∀ j, edge l i j → Calls Try.prog 93 #[.int .i64 j, .pointer (some ⟨Lb, 0, none⟩), .pointer (some ⟨Bb, 0, none⟩), .pointer (some ⟨Db, 0, none⟩)] w fun e w' => e = .returned (.int .i64 (downI l j)) ∧ w = w') := fun j he => ih j he.2.1 fun z hz => by
      have := hch (j :: z) (Chain.cons_iff.2 ⟨he, hz⟩)
      simpa using this
    have HCon : Hid (∀ k (hk : k < l.length), ∃ v, w.cell? ⟨O, k, none⟩ = some v ∧ Calls Try.prog 94 #[v, .int .i64 i] w fun e w' => e = .returned (.bool (decide ((i : Int) ∈ pls l l[k].bef))) ∧ w = w') := fun k hk => by
      obtain ⟨v, h1, h2⟩ := h.row k hk
      exact ⟨v, h1, containsInt v _ i B w h2⟩
    have HEd : Hid (∀ k (hk : k < l.length), (i : Int) ∈ pls l l[k].bef ↔ edge l i k) := fun k hk => by
      have hrow : rowAt l k = pls l l[k].bef := getD_rows hk
      rw [← hrow]
      exact ⟨fun hm => by have := row_edge hR hk hm; rwa [Int.toNat_natCast] at this, fun he => edge_rowAt hR he⟩
    have x1 := h.hB
    have x2 := h.hD
    have x3 := h.hL
    obtain ⟨A, cc, rfl, hA1, hA2, hct⟩ := h.tasks.open_
    obtain ⟨b0, off0, rfl, hb0, hct⟩ := hct i hi
    obtain ⟨-, t1, -, -, -⟩ := hct i hi
    unfold maxLen at hA2
    have hln := fieldB_len (hR.field i hi)
    have i1 : (0 : Int) ≤ (i : Int) := Int.natCast_nonneg _
    have i2 : (i : Int) < (l.length : Int) := by omega
    have eg := entersDown
    clear ih h hct hR hch
    generalize l[i].len = ln at *
    go_enter Try.func93, Try.ntmps93
    go_wp2_with fail
    go_loopw [10, 6] (fun ix m wr => ∃ (k : Nat) (n : Int), k ≤ l.length ∧ ix = .int .i64 k ∧ m = .int .i64 n ∧ Hid (MostTo l i k n) ∧ Hid (0 ≤ n ∧ n ≤ 80000) ∧ w = wr) (fun ix _ _ => l.length - (intOf ix).toNat)
    case atStart => exact ⟨0, 0, Nat.zero_le _, rfl, rfl, MostTo.start l i, by unfold Hid; omega, rfl⟩
    case round =>
      obtain ⟨k, n, hk, rfl, rfl, HM, HN, rfl⟩ := hrel
      have hn := HN.out
      by_cases hkl : k < l.length
      · obtain ⟨v, hv, hcon⟩ := HCon.out k hkl
        have i3 : (0 : Int) ≤ (k : Int) := Int.natCast_nonneg _
        have i4 : (k : Int) < (l.length : Int) := by omega
        by_cases hm : (i : Int) ∈ pls l l[k].bef
        · have he := (HEd.out k hkl).1 hm
          have hcall := IH.out k he
          have hdb := HBd.out k hkl
          have HY := Lib.hid (HM.out.yes he (HIs.out k hkl))
          rw [decide_eq_true hm] at hcon
          clear he hm
          generalize downI l k = dk at *
          have HN' : Hid (0 ≤ (if n < dk then dk else n) ∧ (if n < dk then dk else n) ≤ 80000) := by unfold Hid; split <;> omega
          go_wp2_with (first | (go_at_call 94; refine hcon.mono ?_; rintro e w' ⟨rfl, rfl⟩) | (go_at_fn 93; refine hcall.mono ?_; rintro e w' ⟨rfl, rfl⟩))
          all_goals
            go_roundw
            case rel => exact ⟨k + 1, _, by omega, by go_num, by rw [imax_eq], HY, HN', by trivial⟩
            case measure => simp [intOf]; omega
        · have HY := Lib.hid (HM.out.no (fun he => hm ((HEd.out k hkl).2 he)))
          rw [decide_eq_false hm] at hcon
          clear hm
          go_wp2_with (go_at_call 94; refine hcon.mono ?_; rintro e w' ⟨rfl, rfl⟩)
          go_roundw
          case rel => exact ⟨k + 1, n, by omega, by go_num, rfl, HY, HN, by trivial⟩
          case measure => simp [intOf]; omega
      · have hke : k = l.length := by omega
        subst hke
        have HE : Hid (downI l i = ln + n) := HDI.out n HM.out
        have w1 : IntKind.i64.wrap (n + ln) = n + ln := IntWalk.i64_in _ (by omega)
        go_wp2_with fail
        go_ret
        exact ⟨ret_int (by rw [HE.out]; omega), rfl⟩

end Go.Proofs.Ytcjejcbikgcnbaa

/- schedule.Critical. -/
namespace Go.Proofs.Ytcjejcbikgcnbaa
open Go.RowKit Go.Shelf

/-- What Critical leaves. -/
def CritPost (l : List Task) (w : World) (e : Ending) (w' : World) : Prop :=
  Below w.heap.size w w' ∧ ((rightR l = false ∧ e = .returned (.tuple #[.slice none 0 0, .int .i64 1])) ∨
    (rightR l = true ∧ ∃ A cap, e = .returned (.tuple #[.slice A (critL l l.length).length cap, .int .i64 0]) ∧ w'.ownsRow w.heap.size 9 1 (.slice A (critL l l.length).length cap) (critL l l.length).length ((critL l l.length).map Value.string)))

theorem critSt_mk {w2 : World} {l : List Task} {tv : Value} {O L B0 : Nat} {cs : List Value} (hl2 : Blk w2 L 22 #[tv]) (hrows : BefRows w2 B0 O l l.length cs) (hT : TasksAt w2 w2.heap.size tv l) :
    CritSt (((w2.alloc (.cells #[.slice (some ⟨O, 0, none⟩) l.length l.length] 96)).alloc (.cells #[.func (.func 92) #[] #[.pointer (some ⟨w2.heap.size, 0, none⟩), .pointer (some ⟨w2.heap.size + 1, 0, none⟩), .pointer (some ⟨L, 0, none⟩)]] 101)).alloc
      (.cells #[.func (.func 93) #[] #[.pointer (some ⟨L, 0, none⟩), .pointer (some ⟨w2.heap.size, 0, none⟩), .pointer (some ⟨w2.heap.size + 1 + 1, 0, none⟩)]] 101)) (w2.heap.size + 1 + 1 + 1) l tv O L w2.heap.size (w2.heap.size + 1) (w2.heap.size + 1 + 1) := by
  have hlt := hl2.lt
  have hO := (hrows.own.lt O rfl).2
  have hX : ∀ o1 o2 o3, Below w2.heap.size w2 (((w2.alloc o1).alloc o2).alloc o3) := fun o1 o2 o3 => (((Below.refl _ _).alloc (Nat.le_refl _) o1).alloc (by simp) o2).alloc (by simp; omega) o3
  refine ⟨(hT.below (hX _ _ _) (Nat.le_refl _)).mono (by omega), (((hl2.alloc _).alloc _).alloc _).cell 0, ?_, ?_, ?_, fun i hi => ?_, ⟨by omega, by omega, by omega, by omega, by omega⟩⟩
  · exact (((Blk.new w2 96 #[.slice (some ⟨O, 0, none⟩) l.length l.length]).alloc _).alloc _).cell 0
  · have := ((Blk.new (w2.alloc (.cells #[.slice (some ⟨O, 0, none⟩) l.length l.length] 96)) 101 #[.func (.func 92) #[] #[.pointer (some ⟨w2.heap.size, 0, none⟩), .pointer (some ⟨w2.heap.size + 1, 0, none⟩), .pointer (some ⟨L, 0, none⟩)]]).alloc (.cells #[.func (.func 93) #[] #[.pointer (some ⟨L, 0, none⟩), .pointer (some ⟨w2.heap.size, 0, none⟩), .pointer (some ⟨w2.heap.size + 1 + 1, 0, none⟩)]] 101)).cell 0
    simpa using this
  · have := (Blk.new ((w2.alloc (.cells #[.slice (some ⟨O, 0, none⟩) l.length l.length] 96)).alloc (.cells #[.func (.func 92) #[] #[.pointer (some ⟨w2.heap.size, 0, none⟩), .pointer (some ⟨w2.heap.size + 1, 0, none⟩), .pointer (some ⟨L, 0, none⟩)]] 101)) 101 #[.func (.func 93) #[] #[.pointer (some ⟨L, 0, none⟩), .pointer (some ⟨w2.heap.size, 0, none⟩), .pointer (some ⟨w2.heap.size + 1 + 1, 0, none⟩)]]).cell 0
    simpa using this
  · have hcl := hrows.cs_len
    have hr := hrows.rows i hi (by omega) hi
    refine ⟨cs[i], ?_, ?_⟩
    · rw [(hX _ _ _).cell (p := ⟨O, i, none⟩) hO, hrows.own.cellAt i (by omega), List.getElem?_eq_getElem]
    · have h2 : l[i].bef.length = (pls l l[i].bef).length := by simp [pls]
      exact ((RowAt.of_own hr).below (hX _ _ _) (Nat.le_refl _)).mono (by omega)

set_option maxRecDepth 100000 in
set_option maxHeartbeats 8000000 in
theorem schedCritical (v : Value) (l : List Task) (w : World) (hl : TasksAt w w.heap.size v l) :
    Calls Try.prog 39 #[v] w (CritPost l w) := by
  have HT : Hid (∀ w1, Below w.heap.size w w1 → TasksAt w1 w1.heap.size v l) := fun w1 hb => (hl.below hb (Nat.le_refl _)).mono hb.size
  have hV : ∀ o, Calls Try.prog 85 #[v] (w.alloc o) fun e w' => e = .returned (.bool (rightR l)) ∧ Below (w.alloc o).heap.size (w.alloc o) w' := fun o => by
    have := schedRight v l _ (HT.out _ ((Below.refl _ _).alloc (Nat.le_refl _) o))
    rwa [rightW_eq] at this
  have hb0 : ∀ o, Below w.heap.size w (w.alloc o) := fun o => (Below.refl _ _).alloc (Nat.le_refl _) o
  obtain ⟨A, cc, rfl, hA1, hA2, -⟩ := hl.open_
  unfold maxLen at hA2
  clear hl
  cases hv : rightR l with
  | false =>
    have Hv := Lib.hid hv
    rw [hv] at hV
    clear hv
    go_enter Try.func39, Try.ntmps39
    go_wp2_with (go_at_call 85; refine (hV _).mono ?_; rintro e w1 ⟨rfl, hb1⟩)
    refine bodyPost_ret (results_tmp2 rfl _ _ _) (by rfl) ?_
    exact ⟨(hb0 _).trans (hb1.mono (by simp)), .inl ⟨Hv.out, rfl⟩⟩
  | true =>
    have hR := (right_iff l).1 hv
    have Hv := Lib.hid hv
    have HR := Lib.hid hR
    have h8 := hR.len
    rw [hv] at hV
    have hrb := right_bef hR
    have HBf : Hid (∀ w1, Below w.heap.size w w1 → Calls Try.prog 91 #[.slice A l.length cc] w1 fun e w' => ∃ O cs, e = .returned (.tuple #[.slice (some ⟨O, 0, none⟩) l.length l.length, .bool true]) ∧ BefRows w' w1.heap.size O l l.length cs ∧ Below w1.heap.size w1 w') := fun w1 hb => (schedBefore _ l w1 (HT.out w1 hb) h8).mono fun e w' h => by
      obtain ⟨hb, ⟨hno, _⟩ | ⟨_, O, cs, he, hr⟩⟩ := h
      · rw [hrb] at hno; cases hno
      · exact ⟨O, cs, he, hr, hb⟩
    obtain ⟨i0, hi0, hz0, hz1, hz2⟩ := info_parts info_int
    have hbytes : i0.bytes * l.length ≤ 281474976710656 := by rw [hz2]; omega
    clear hv hR hrb
    go_enter Try.func39, Try.ntmps39
    go_wp2_with (first
      | (go_at_call 85; refine (hV _).mono ?_; rintro e w1 ⟨rfl, hb1⟩; have hbx := (hb0 (.cells #[.slice A l.length cc] 22)).trans (hb1.mono (by simp)); have hl0 := Blk.new w 22 #[.slice A l.length cc]; have hl1 := hl0.below hb1 hl0.lt; have z1 := hl1.cell 0; simp only [List.getElem?_toArray, List.getElem?_cons_zero] at z1; have hB := HBf.out w1 hbx)
      | (go_at_call 91; refine hB.mono ?_; rintro e w2 ⟨O, cs, rfl, hrows, hb2⟩; have hl2 := hl1.below hb2 hl1.lt; have hbx2 := hbx.trans (hb2.mono hbx.size); clear z1; have z1 := hl2.cell 0; simp only [List.getElem?_toArray, List.getElem?_cons_zero] at z1; have hlt2 := hl2.lt; have hz3 : ∀ o1 o2 o3, (((w2.alloc o1).alloc o2).alloc o3).cell? ⟨w.heap.size, 0, none⟩ = some (.slice A l.length cc) := fun o1 o2 o3 => (((hl2.alloc o1).alloc o2).alloc o3).cell 0)
      | (at_make; refine wpList_make_full _ rfl _ _ 29 rfl (w2.heap.size + 1 + 1 + 1) 3 i0 (.int .i64 0) 1 Try.underlying29 hi0 hz0 hz1 .i64 .i64 _ _ l.length rfl rfl rfl rfl hbytes (by unfold maxLen; omega) (by simp) ?_; intro w4 hown4 hgrow4; rw [made_zero] at hown4; simp only [World.size_alloc] at hown4; have hb4 := (Below.refl (w2.heap.size + 1 + 1 + 1) _).grown hgrow4 (by simp) (fun k hk => by cases hk); have hCS := (critSt_mk hl2 hrows (HT.out w2 hbx2)).below hb4; have hB4 : Below w.heap.size w w4 := hbx2.trans (((((Below.refl _ _).alloc (Nat.le_refl _) _).alloc (by simp) _).alloc (by simp; omega) _ |>.mono hbx2.size).trans (hb4.mono (by omega))); have hCS' := Lib.hid hCS; have Hown4 := Lib.hid hown4; clear hown4 hCS hb4 hgrow4 hz3 z1 hrows hi0 hz0 hz1; have z4 := hCS'.out.hL))
    have hOsz : w.heap.size ≤ w2.heap.size + 1 + 1 + 1 := by omega
    have eg1 := entersUp
    have eg2 := entersDown
    clear hl0 hl1 hl2 hb1 hb2 hbx hbx2 hV HBf hB hb0 hbytes
    generalize w2.heap.size + 1 + 1 + 1 = O2 at *
    generalize w2.heap.size + 1 + 1 = Db at *
    generalize w2.heap.size + 1 = Ub at *
    generalize w2.heap.size = Bb at *
    go_loopw [30, 9] (fun ix m wr => ∃ (k : Nat) (xs : List Int), k ≤ l.length ∧ ix = .int .i64 k ∧ m = .int .i64 (critTo l k) ∧ Hid (xs.length = l.length ∧ ∀ i, i < k → xs.getD i 0 = critI l i) ∧
      Hid (wr.ownsRow O2 3 1 (.slice (some ⟨O2, 0, none⟩) l.length l.length) l.length (xs.map (Value.int .i64))) ∧ Below O2 w4 wr) (fun ix _ _ => l.length - (intOf ix).toNat)
    case atStart => exact ⟨0, List.replicate l.length 0, Nat.zero_le _, rfl, rfl, ⟨by simp, fun i hi => absurd hi (by omega)⟩, Hown4, Below.refl _ _⟩
    case round =>
      clear Hown4 z4
      obtain ⟨k, xs, hk, rfl, rfl, HX, Hown, hbel⟩ := hrel
      have HCr := Lib.hid (hCS'.out.below hbel)
      have z4 := HCr.out.hL
      by_cases hkl : k < l.length
      · obtain ⟨b0, off0, rfl, hb0, hct⟩ := HCr.out.tasks.cells hkl
        obtain ⟨t0, t1, t2, t3, t4⟩ := hct k hkl
        have hO2 := (Hown.out.lt O2 rfl).2
        have hbt := (Below.refl wr.heap.size wr).alloc (Nat.le_refl _) (.cells #[.string l[k].name, .int .i64 l[k].len, .int .i64 l[k].crew, .int .i64 l[k].pow, .slice l[k].ba l[k].bef.length l[k].bc] 41)
        have y1 := World.cell?_alloc_new wr #[.string l[k].name, .int .i64 l[k].len, .int .i64 l[k].crew, .int .i64 l[k].pow, .slice l[k].ba l[k].bef.length l[k].bc] 41 1
        simp only [List.getElem?_toArray, List.getElem?_cons_succ, List.getElem?_cons_zero] at y1
        have hCt := HCr.out.below (hbt.mono (Nat.le_of_lt hO2))
        have hownt := Hown.out.alloc (.cells #[.string l[k].name, .int .i64 l[k].len, .int .i64 l[k].crew, .int .i64 l[k].pow, .slice l[k].ba l[k].bef.length l[k].bc] 41)
        have hbelt := hbel.trans (hbt.mono (Nat.le_of_lt hO2))
        clear hct hbt
        go_wp2_with fail
        generalize wr.alloc (.cells #[.string l[k].name, .int .i64 l[k].len, .int .i64 l[k].crew, .int .i64 l[k].pow, .slice l[k].ba l[k].bef.length l[k].bc] 41) = wt at *
        generalize wr.heap.size = gt at *
        obtain ⟨rank, hrank⟩ := HR.out.acyc
        have hcU : Calls Try.prog 92 #[.int .i64 k, .pointer (some ⟨Bb, 0, none⟩), .pointer (some ⟨Ub, 0, none⟩), .pointer (some ⟨w.heap.size, 0, none⟩)] wt.drew fun e w' => e = .returned (.int .i64 (upI l k)) ∧ w' = wt.drew :=
          (critUp O2 l _ O w.heap.size Bb Ub Db wt.drew HR.out (hCt.below (Below.refl _ _).drew) rank hrank (rank k + 1) k (by omega) hkl).mono fun _ _ ⟨h1, h2⟩ => ⟨h1, h2.symm⟩
        have hcD : Calls Try.prog 93 #[.int .i64 k, .pointer (some ⟨w.heap.size, 0, none⟩), .pointer (some ⟨Bb, 0, none⟩), .pointer (some ⟨Db, 0, none⟩)] wt.drew fun e w' => e = .returned (.int .i64 (downI l k)) ∧ w' = wt.drew :=
          (critDown O2 l _ O w.heap.size Bb Ub Db wt.drew HR.out (hCt.below (Below.refl _ _).drew) l.length k hkl (fun z hz => hz.short HR.out)).mono fun _ _ ⟨h1, h2⟩ => ⟨h1, h2.symm⟩
        have u1 := hCt.hU
        have u2 := hCt.hD
        have hub := up_bd HR.out hkl
        have hdb := down_bd HR.out hkl
        have hlb := lenAt_bd HR.out k
        have hcb := critTo_bd HR.out k hk
        rw [← lenAt_eq hkl] at y1
        have HCI : Hid (critI l k = upI l k + downI l k - lenAt l k) := rfl
        have HCT : Hid (critTo l (k + 1) = max (critTo l k) (critI l k)) := rfl
        have hcb1 := hcb.1
        have hcb2 := hcb.2.1
        have hc0 := hownt.cellAt k (by omega)
        rw [List.getElem?_map, List.getElem?_eq_getElem (by have := HX.out.1; omega)] at hc0
        have hf0 := hownt.frozenAt k
        have HM := Lib.hid (fun x => (own_drewN hownt 1).stored k (.int .i64 x))
        clear hcb hCt hownt t0 t1 t2 t3 t4 z4 hrank
        generalize upI l k = ua at *
        generalize downI l k = da at *
        generalize lenAt l k = la at *
        have w1 : IntKind.i64.wrap (ua + da) = ua + da := IntWalk.i64_in _ (by omega)
        have w2' : IntKind.i64.wrap (ua + da - la) = ua + da - la := IntWalk.i64_in _ (by omega)
        have i3 : (0 : Int) ≤ (k : Int) := Int.natCast_nonneg _
        have i4 : (k : Int) < (l.length : Int) := by omega
        refine wp_region_tail 13 (by kernel_rfl) (by kernel_rfl) ?_
        simp only [List.take_succ_cons, List.take_zero, List.drop_succ_cons, List.drop_zero]
        repeat (first | go_big_quiet_skip | (go_big_quiet_want; go_big_quiet_op; first | go_big_quiet_on | (apply Exists.intro; refine ⟨?_, ?_⟩; (first | with_reducible exact hcU | with_reducible exact hcD); go_big_quiet_on)))
        refine wpQuiet_nil ?_
        go_wp2_with fail
        have HX' : Hid ((xs.set k (ua + da - la)).length = l.length ∧ ∀ i, i < k + 1 → (xs.set k (ua + da - la)).getD i 0 = critI l i) := by
          refine ⟨by rw [List.length_set]; exact HX.out.1, fun i hi => ?_⟩
          rw [getD_set_int _ _ _ _ (by have := HX.out.1; omega)]
          split
          · rename_i e
            subst e
            exact HCI.out.symm
          · exact HX.out.2 i (by omega)
        have HO' : Hid ((wt.drew.setCell ⟨O2, k, none⟩ (.int .i64 (ua + da - la))).ownsRow O2 3 1 (.slice (some ⟨O2, 0, none⟩) l.length l.length) l.length ((xs.set k (ua + da - la)).map (Value.int .i64))) := by
          unfold Hid
          rw [List.map_set]
          exact (HM.out _).1
        have HB' : Below O2 w4 (wt.drew.setCell ⟨O2, k, none⟩ (.int .i64 (ua + da - la))) := (hbelt.drew).setCell (p := ⟨O2, k, none⟩) (Nat.le_refl _) _
        rw [← HCI.out] at *
        go_roundw
        case rel => exact ⟨k + 1, _, by omega, by go_num, by rw [HCT.out], HX', HO', HB'⟩
        case measure => simp [intOf]; omega
      · have hke : k = l.length := by omega
        subst hke
        have HUp : Hid (critTo l l.length = upTo l l.length) := crit_up HR.out
        have hub := upTo_bd HR.out l.length (Nat.le_refl _)
        have hub1 := hub.1
        have hub2 := hub.2.1
        rw [HUp.out]
        clear hub HUp
        obtain ⟨w5, rfl⟩ : ∃ w5 : World, w5 = wr := ⟨_, rfl⟩
        have hO2 := (Hown.out.lt O2 rfl).2
        have HOw := Lib.hid (fun (w' : World) (hb : Below w5.heap.size w5 w') => Hown.out.kept (grown_below (row := none) hb) (by simp [Value.ownBlock]))
        have hB5 : Below w.heap.size w w5 := hB4.trans (hbel.mono hOsz)
        go_wp2_with fail
        go_loopw [57, 12] (fun ix ov wr => ∃ (k : Nat) (A3 : Option Addr) (cap3 : Nat), k ≤ l.length ∧ ix = .int .i64 k ∧ ov = .slice A3 (critL l k).length cap3 ∧
          Hid (wr.ownsRow w5.heap.size 9 1 (.slice A3 (critL l k).length cap3) (critL l k).length ((critL l k).map Value.string)) ∧ Below w5.heap.size w5 wr) (fun ix _ _ => l.length - (intOf ix).toNat)
        case atStart => exact ⟨0, none, 0, Nat.zero_le _, rfl, rfl, World.ownsRow_nil _ _ _ _, Below.refl _ _⟩
        case round =>
          obtain ⟨k, A3, cap3, hk, rfl, rfl, Hout, hbe⟩ := hrel
          by_cases hkl : k < l.length
          · have HC2 := Lib.hid (HCr.out.below (hbe.mono (Nat.le_of_lt hO2)))
            obtain ⟨b0, off0, rfl, hb0, hct⟩ := HC2.out.tasks.cells hkl
            obtain ⟨t0, t1, t2, t3, t4⟩ := hct k hkl
            have hO5 := HOw.out wr hbe
            have hc0 := hO5.cellAt k (by omega)
            rw [List.getElem?_map, List.getElem?_eq_getElem (by have := HX.out.1; omega)] at hc0
            have hxk : xs[k]'(by have := HX.out.1; omega) = critI l k := by
              have := HX.out.2 k (by omega)
              rwa [getD_get xs k (by have := HX.out.1; omega)] at this
            rw [hxk] at hc0
            have hlO := (hO5.lt O2 rfl).2
            have y0 := World.cell?_alloc_new wr #[.string l[k].name, .int .i64 l[k].len, .int .i64 l[k].crew, .int .i64 l[k].pow, .slice l[k].ba l[k].bef.length l[k].bc] 41 0
            simp only [List.getElem?_toArray, List.getElem?_cons_zero] at y0
            have hct' := (World.cell?_alloc_lt wr (.cells #[.string l[k].name, .int .i64 l[k].len, .int .i64 l[k].crew, .int .i64 l[k].pow, .slice l[k].ba l[k].bef.length l[k].bc] 41) ⟨O2, k, none⟩ hlO).trans hc0
            have hsz := hbe.size
            have hbex := hbe.alloc hsz (.cells #[.string l[k].name, .int .i64 l[k].len, .int .i64 l[k].crew, .int .i64 l[k].pow, .slice l[k].ba l[k].bef.length l[k].bc] 41)
            have hox := Hout.out.alloc (.cells #[.string l[k].name, .int .i64 l[k].len, .int .i64 l[k].crew, .int .i64 l[k].pow, .slice l[k].ba l[k].bef.length l[k].bc] 41)
            have hcl := critL_len (l := l) k
            have HNm : Hid ((names l).getD k ⟨#[]⟩ = l[k].name) := by unfold Hid names; rw [List.getD_eq_getElem?_getD, List.getElem?_map, List.getElem?_eq_getElem hkl]; rfl
            have hcb := crit_bd HR.out hkl
            clear hct hO5 hxk hc0
            by_cases hq : critI l k = upTo l l.length
            · have HL' : Hid (critL l (k + 1) = critL l k ++ [l[k].name]) := by unfold Hid; rw [critL, if_pos hq, HNm.out]
              have hb : (critI l k == upTo l l.length) = true := by simpa using hq
              clear hq
              go_wp2_with (at_builtin; refine wpList_pushN _ rfl (.tmp 68) (.tmp 71) 25 rfl w5.heap.size 9 info_str Try.underlying25 rfl _ (critL l k).length _ rfl hox (.string l[k].name) rfl (wr.heap.size + 1) (by simp) rfl (by unfold maxLen; omega) (by omega) hbex.size ?_; intro g3 cap6 w6 hown6 hg6 hbg6 hgg6)
              have hown6' : w6.ownsRow w5.heap.size 9 1 (.slice (some ⟨g3, 0, none⟩) (critL l (k + 1)).length cap6) (critL l (k + 1)).length ((critL l (k + 1)).map Value.string) := by
                rw [HL'.out, List.length_append, List.length_singleton, List.map_append]
                exact hown6
              have hb6 := hbex.grown hg6 hbex.size (fun k hk => (hox.lt k hk).1)
              have Hown6 := Lib.hid hown6'
              clear hown6 hown6' hg6 hgg6
              go_roundw
              case rel => exact ⟨k + 1, some ⟨g3, 0, none⟩, cap6, by omega, by go_num, by rw [HL'.out, List.length_append, List.length_singleton], Hown6, hb6⟩
              case measure => simp [intOf]; omega
            · have HL' : Hid (critL l (k + 1) = critL l k) := by unfold Hid; rw [critL, if_neg hq]
              have hb : (critI l k == upTo l l.length) = false := by simpa using hq
              clear hq
              go_wp2_with fail
              go_roundw
              case rel => exact ⟨k + 1, A3, cap3, by omega, by go_num, by rw [HL'.out], by rw [HL'.out]; exact Lib.hid hox, hbex⟩
              case measure => simp [intOf]; omega
          · have hke : k = l.length := by omega
            subst hke
            go_wp2_with fail
            refine bodyPost_ret (results_tmp2 rfl _ _ _) (by rfl) ?_
            exact ⟨hB5.trans (hbe.mono hB5.size), .inr ⟨Hv.out, A3, cap3, rfl, own_mono Hout.out hB5.size⟩⟩

end Go.Proofs.Ytcjejcbikgcnbaa

/- the reference's Critical. -/
namespace Go.Proofs.Ytcjejcbikgcnbaa
open Go.RowKit Go.Shelf

/-- What the reference's Critical leaves. -/
def RefCritPost (l : List Task) (w : World) (e : Ending) (w' : World) : Prop :=
  Below w.heap.size w w' ∧ ∃ A cap, e = .returned (.slice A (critL l l.length).length cap) ∧ w'.ownsRow w.heap.size 9 1 (.slice A (critL l l.length).length cap) (critL l l.length).length ((critL l l.length).map Value.string)

/-- The row of the sums. -/
def OwnD (w : World) (O2 n : Nat) (d : List Int) : Prop := w.ownsRow O2 3 1 (.slice (some ⟨O2, 0, none⟩) n n) n (d.map (Value.int .i64))
theorem OwnD.cell {w : World} {O2 n : Nat} {d : List Int} (h : OwnD w O2 n d) (hd : d.length = n) {i : Nat} (hi : i < n) : w.cell? ⟨O2, i, none⟩ = some (.int .i64 (d.getD i 0)) := by
  rw [World.ownsRow.cellAt h i (by omega), List.getElem?_map, List.getElem?_eq_getElem (by omega), getD_get d i (by omega)]
  rfl
theorem OwnD.frozen {w : World} {O2 n : Nat} {d : List Int} (h : OwnD w O2 n d) (i : Nat) : w.frozen? ⟨O2, i, none⟩ = false := World.ownsRow.frozenAt h i
theorem OwnD.set_ {w : World} {O2 n : Nat} {d : List Int} (h : OwnD w O2 n d) (i : Nat) (x : Int) : OwnD (w.setCell ⟨O2, i, none⟩ (.int .i64 x)) O2 n (d.set i x) := by
  unfold OwnD
  rw [List.map_set]
  exact (World.ownsRow.stored h i _).1
theorem OwnD.drewN {w : World} {O2 n : Nat} {d : List Int} (h : OwnD w O2 n d) (q : Nat) : OwnD (w.drewN q) O2 n d := own_drewN h q
theorem OwnD.lt {w : World} {O2 n : Nat} {d : List Int} (h : OwnD w O2 n d) : O2 < w.heap.size := (World.ownsRow.lt h O2 rfl).2
theorem OwnD.below {w w' : World} {O2 n : Nat} {d : List Int} (h : OwnD w O2 n d) (hb : Below w.heap.size w w') : OwnD w' O2 n d := World.ownsRow.kept h (grown_below (row := none) hb) (by simp [Value.ownBlock])

theorem pls_len {l : List Task} {L : List ByteArray} : (pls l L).length = L.length := by simp [pls]

set_option maxRecDepth 100000 in
set_option maxHeartbeats 8000000 in
theorem refCritical (v : Value) (l : List Task) (w : World) (hR : RightT l) (hl : TasksAt w w.heap.size v l) :
    Calls Try.prog 40 #[v] w (RefCritPost l w) := by
  have h8 := hR.len
  have HR := Lib.hid hR
  have hCh := refChains v l w hl h8 (fun t ht => by obtain ⟨i, hi, rfl⟩ := List.mem_iff_getElem.1 ht; exact fieldB_len (hR.field i hi)) (fun t ht s hs => (((befOK_iff l).1 hR.bef t ht).2 s hs).1)
  obtain ⟨x, hx, hxl, -⟩ := up_fixed hR
  have HUx : Hid (∀ i, x.getD i 0 = upI l i) := fun i => by unfold upI; rw [hx]; rfl
  have hCh' : Calls Try.prog 69 #[v] w fun e w' => ∃ O, e = .returned (.tuple #[.slice (some ⟨O, 0, none⟩) l.length l.length, .bool true]) ∧ Below w.heap.size w w' ∧ w.heap.size ≤ O ∧ O < w'.heap.size ∧ (∀ i, i < l.length → w'.cell? ⟨O, i, none⟩ = some (.int .i64 (upI l i))) := hCh.mono fun e w' h => by
    obtain ⟨hb, h⟩ := h
    rw [hx] at h
    obtain ⟨O, he, hl', hown⟩ := h
    refine ⟨O, he, hb, (hown.lt O rfl).1, (hown.lt O rfl).2, fun i hi => ?_⟩
    rw [hown.cellAt i (by omega), List.getElem?_map, List.getElem?_eq_getElem (by omega), ← HUx.out, getD_get x i (by omega)]
    rfl
  have HT : Hid (∀ w1, Below w.heap.size w w1 → TasksAt w1 w.heap.size v l) := fun w1 hb => hl.below hb (Nat.le_refl _)
  obtain ⟨A, cc, rfl, hA1, hA2, -⟩ := hl.open_
  unfold maxLen at hA2
  obtain ⟨i0, hi0, hz0, hz1, hz2⟩ := info_parts info_int
  have hbytes : i0.bytes * l.length ≤ 281474976710656 := by rw [hz2]; omega
  clear hl hCh hx hxl HUx hR
  go_enter Try.func40, Try.ntmps40
  go_wp2_with (first
    | (go_at_call 69; refine hCh'.mono ?_; rintro e w1 ⟨O, rfl, hb1, hO1, hO2, hUc⟩)
    | (at_make; refine wpList_make_full _ rfl _ _ 29 rfl w1.heap.size 3 i0 (.int .i64 0) 1 Try.underlying29 hi0 hz0 hz1 .i64 .i64 _ _ l.length rfl rfl rfl rfl hbytes (by unfold maxLen; omega) (Nat.le_refl _) ?_; intro w4 hown4 hgrow4))
  rw [made_zero] at hown4
  have hb4 := (Below.refl w1.heap.size w1).grown hgrow4 (Nat.le_refl _) (fun k hk => by cases hk)
  have hO4 : OwnD w4 w1.heap.size l.length (dRounds l 0) := hown4
  have HO4 := Lib.hid hO4
  have hB4 : Below w.heap.size w w4 := hb1.trans (hb4.mono hb1.size)
  have HU4 : Hid (∀ i, i < l.length → w4.cell? ⟨O, i, none⟩ = some (.int .i64 (upI l i))) := fun i hi => (hb4.cell (p := ⟨O, i, none⟩) hO2).trans (hUc i hi)
  have hsz1 := hb1.size
  clear hown4 hgrow4 hb4 hO4 hUc hi0 hz0 hz1 hbytes hCh' hb1
  generalize w1.heap.size = O2 at *
  have HT4 : Hid (∀ w', Below O2 w4 w' → TasksAt w' w.heap.size (.slice A l.length cc) l) := fun w' hb => HT.out w' (hB4.trans (hb.mono hsz1))
  go_loopw [23] (fun ix wr => ∃ r : Nat, r ≤ l.length ∧ ix = .int .i64 r ∧ Hid (OwnD wr O2 l.length (dRounds l r)) ∧ Below O2 w4 wr) (fun ix _ => l.length - (intOf ix).toNat)
  case atStart => exact ⟨0, Nat.zero_le _, rfl, HO4, Below.refl _ _⟩
  case round =>
    clear HO4
    obtain ⟨r, hr, rfl, Hown, hbel⟩ := hrel
    by_cases hrl : r < l.length
    · have HD := Lib.hid (DInv.rounds HR.out r)
      have HNx : Hid (dRounds l (r + 1) = dTo l (dRounds l r) l.length) := rfl
      generalize dRounds l r = d0 at *
      obtain ⟨w5, rfl⟩ : ∃ w5 : World, w5 = wr := ⟨_, rfl⟩
      go_wp2_with fail
      go_loopw [6] (fun ix wr => ∃ i : Nat, i ≤ l.length ∧ ix = .int .i64 i ∧ Hid (OwnD wr O2 l.length (dTo l d0 i)) ∧ Below O2 w4 wr) (fun ix _ => l.length - (intOf ix).toNat)
      case atStart => exact ⟨0, Nat.zero_le _, rfl, Hown, hbel⟩
      case round =>
        clear Hown hbel
        obtain ⟨i, hi, rfl, Hown, hbel⟩ := hrel
        by_cases hil : i < l.length
        · have HD2 := Lib.hid (HD.out.to HR.out i hi)
          have HD3 := Lib.hid (HD2.out.lenTo HR.out hil)
          have HNx2 : Hid (dTo l d0 (i + 1) = dIn l (dLen l (dTo l d0 i) i) i (rowAt l i)) := rfl
          have HLn : Hid (dLen l (dTo l d0 i) i = (dTo l d0 i).set i (max ((dTo l d0 i).getD i 0) (lenAt l i))) := rfl
          have HDI := Lib.hid (fun m hm => HD3.out.inTo HR.out hil m hm)
          generalize dTo l d0 i = d1 at *
          generalize dLen l d1 i = d2 at *
          obtain ⟨w6, rfl⟩ : ∃ w6 : World, w6 = wr := ⟨_, rfl⟩
          obtain ⟨b0, off0, rfl, hb0, hct⟩ := (HT4.out w6 hbel).cells hil
          obtain ⟨-, t1, -, -, t4⟩ := hct i hil
          obtain ⟨hm1, hm2, hbef⟩ := (HT4.out w6 hbel).open_bef hil
          unfold maxLen at hm2
          have hrow : rowAt l i = pls l l[i].bef := getD_rows hil
          have hrow' := Lib.hid hrow
          have HMem : Hid (∀ s ∈ l[i].bef, ∃ j : Nat, j < l.length ∧ pl l s = (j : Int)) := fun s hs => mem_row HR.out hil (by unfold pls; exact List.mem_map.2 ⟨s, hs, rfl⟩)
          have HBf := Lib.hid hbef
          have c1 := Hown.out.cell HD2.out.len hil
          have c2 := Hown.out.frozen i
          have hbd := HD2.out.bd i hil
          have hdb := (down_bd HR.out hil).2
          have hlb := lenAt_bd HR.out i
          rw [← lenAt_eq hil] at t1
          have i1 : (0 : Int) ≤ (i : Int) := Int.natCast_nonneg _
          have i2 : (i : Int) < (l.length : Int) := by omega
          have HS := Lib.hid (fun q => (Hown.out.drewN q).set_ i (max (d1.getD i 0) (lenAt l i)))
          rw [← HLn.out] at HS
          have HB2 := Lib.hid (fun q => (below_drewN hbel q).setCell (p := ⟨O2, i, none⟩) (Nat.le_refl _) (.int .i64 (max (d1.getD i 0) (lenAt l i))))
          have hbs := hbel.size
          clear hct hbef hrow
          generalize d1.getD i 0 = x1 at *
          generalize lenAt l i = la at *
          go_wp2_with fail
          refine wp_region_tail 13 (by kernel_rfl) (by kernel_rfl) ?_
          simp only [List.take_succ_cons, List.take_zero, List.drop_succ_cons, List.drop_zero]
          repeat (go_big_quiet_step (fail))
          refine wpQuiet_nil ?_
          go_wp2_with fail
          have hS1 : OwnD ((w6.setCell ⟨O2, i, none⟩ (.int .i64 (max x1 la))).drew) O2 l.length (dIn l d2 i ((pls l l[i].bef).take 0)) := HS.out 1
          have hB1 : Below O2 w4 ((w6.setCell ⟨O2, i, none⟩ (.int .i64 (max x1 la))).drew) := HB2.out 1
          have HS1 := Lib.hid hS1
          clear HS HB2 hS1 c1 c2
          generalize (w6.setCell ⟨O2, i, none⟩ (.int .i64 (max x1 la))).drew = w7 at *
          rw [hrow'.out] at HDI
          go_loopw [7] (fun ix wr => ∃ k : Nat, k ≤ l[i].bef.length ∧ ix = .int .i64 k ∧ Hid (OwnD wr O2 l.length (dIn l d2 i ((pls l l[i].bef).take k))) ∧ Below O2 w4 wr) (fun ix _ => l[i].bef.length - (intOf ix).toNat)
          case atStart => exact ⟨0, Nat.zero_le _, rfl, HS1, hB1⟩
          case round =>
            clear HS1 hB1 hbel Hown t1 t4
            obtain ⟨k, hk, rfl, Hown, hbel⟩ := hrel
            obtain ⟨b0', off0', e0, hb0', hct⟩ := (HT4.out wr hbel).cells hil
            injection e0 with e0
            injection e0 with e1 e2
            subst e1 e2
            obtain ⟨-, -, -, -, t4⟩ := hct i hil
            by_cases hkl : k < l[i].bef.length
            · have hbs : b0 < O2 := by omega
              have hF := refFind _ l l[i].bef[k] wr w.heap.size (HT4.out wr hbel)
              have hsk := ((HT4.out wr hbel).open_bef hil).2.2 k hkl
              obtain ⟨b', off', hba, hb', hs⟩ := hsk
              have hsk := hs k hkl
              obtain ⟨j, hj, hje⟩ := HMem.out _ (List.getElem_mem hkl)
              have hF' : Calls Try.prog 67 #[.slice (some ⟨b0, off0, none⟩) l.length cc, .string l[i].bef[k]] wr fun e w' => e = .returned (.int .i64 j) ∧ wr = w' := hF.mono fun e w' ⟨h1, h2⟩ => ⟨by rw [h1]; exact ret_int hje, h2⟩
              have hDk := HDI.out k (by rw [pls_len]; omega)
              have hg : (pls l l[i].bef)[k]'(by rw [pls_len]; exact hkl) = (j : Int) := by rw [← hje]; simp [pls]
              have HNx3 : Hid (dIn l d2 i ((pls l l[i].bef).take (k + 1)) = (dIn l d2 i ((pls l l[i].bef).take k)).set j (max ((dIn l d2 i ((pls l l[i].bef).take k)).getD j 0) (lenAt l j + (dIn l d2 i ((pls l l[i].bef).take k)).getD i 0))) := by
                unfold Hid
                rw [dIn_snoc (by rw [pls_len]; exact hkl), hg, Int.toNat_natCast]
              generalize dIn l d2 i ((pls l l[i].bef).take k) = d3 at *
              have c1 := Hown.out.cell hDk.len hil
              have c3 := Hown.out.cell hDk.len hj
              have c4 := Hown.out.frozen j
              have hb1 := hDk.bd i hil
              have hb2 := hDk.bd j hj
              have hd1 := (down_bd HR.out hil).2
              have hd2 := (down_bd HR.out hj).2
              have hlj := lenAt_bd HR.out j
              obtain ⟨-, tj, -, -, -⟩ := hct j hj
              rw [← lenAt_eq hj] at tj
              have HS := Lib.hid (fun q => (Hown.out.drewN q).set_ j (max (d3.getD j 0) (lenAt l j + d3.getD i 0)))
              rw [← HNx3.out] at HS
              have HB2 := Lib.hid (fun q => (below_drewN hbel q).setCell (p := ⟨O2, j, none⟩) (Nat.le_refl _) (.int .i64 (max (d3.getD j 0) (lenAt l j + d3.getD i 0))))
              clear hF hct hs hje hg hDk
              generalize d3.getD j 0 = xj at *
              generalize d3.getD i 0 = xi at *
              generalize lenAt l j = lj at *
              have j1 : (0 : Int) ≤ (j : Int) := Int.natCast_nonneg _
              have j2 : (j : Int) < (l.length : Int) := by omega
              have i3 : (0 : Int) ≤ (k : Int) := Int.natCast_nonneg _
              have i4 : (k : Int) < (l[i].bef.length : Int) := by omega
              have w1' : IntKind.i64.wrap (lj + xi) = lj + xi := IntWalk.i64_in _ (by omega)
              go_wp2_with (go_at_call 67; refine hF'.mono ?_; rintro e w' ⟨rfl, rfl⟩)
              refine wp_region_tail 18 (by kernel_rfl) (by kernel_rfl) ?_
              simp only [List.take_succ_cons, List.take_zero, List.drop_succ_cons, List.drop_zero]
              repeat (go_big_quiet_step (fail))
              refine wpQuiet_nil ?_
              go_wp2_with fail
              go_roundw
              case rel => exact ⟨k + 1, by omega, by go_num, HS.out 1, HB2.out 1⟩
              case measure => simp [intOf]; omega
            · have hke : k = l[i].bef.length := by omega
              subst hke
              have HO' : Hid (OwnD wr O2 l.length (dTo l d0 (i + 1))) := by
                unfold Hid
                rw [HNx2.out, hrow'.out]
                have := Hown.out
                rwa [show (pls l l[i].bef).take l[i].bef.length = pls l l[i].bef by rw [← pls_len (l := l), List.take_length]] at this
              go_wp2_with fail
              go_roundw
              case rel => exact ⟨i + 1, by omega, by go_num, HO', hbel⟩
              case measure => simp [intOf]; omega
        · have hie : i = l.length := by omega
          subst hie
          rw [← HNx.out] at Hown
          go_wp2_with fail
          go_roundw
          case rel => exact ⟨r + 1, by omega, by go_num, Hown, hbel⟩
          case measure => simp [intOf]; omega
    · have hre : r = l.length := by omega
      subst hre
      have HDn := Lib.hid (DInv.rounds HR.out l.length)
      have HDw : Hid (∀ i, i < l.length → (dRounds l l.length).getD i 0 = downI l i) := fun i hi => rounds_down HR.out hi
      obtain ⟨w5, rfl⟩ : ∃ w5 : World, w5 = wr := ⟨_, rfl⟩
      have HU5 : Hid (∀ w', Below O2 w4 w' → ∀ i, i < l.length → w'.cell? ⟨O, i, none⟩ = some (.int .i64 (upI l i))) := fun w' hb i hi => (hb.cell (p := ⟨O, i, none⟩) hO2).trans (HU4.out i hi)
      generalize dRounds l l.length = d at *
      go_wp2_with fail
      go_loopw [10, 9] (fun ix m wr => ∃ k : Nat, k ≤ l.length ∧ ix = .int .i64 k ∧ m = .int .i64 (upTo l k) ∧ w5 = wr) (fun ix _ _ => l.length - (intOf ix).toNat)
      case atStart => exact ⟨0, Nat.zero_le _, rfl, rfl, rfl⟩
      case round =>
        obtain ⟨k, hk, rfl, rfl, rfl⟩ := hrel
        by_cases hkl : k < l.length
        · have u1 := HU5.out w5 hbel k hkl
          have hub := upTo_bd HR.out k hk
          have hub1 := hub.1
          have hub2 := hub.2.1
          have hua := (up_bd HR.out hkl).2
          have HS : Hid (upTo l (k + 1) = max (upTo l k) (upI l k)) := rfl
          clear hub
          have i3 : (0 : Int) ≤ (k : Int) := Int.natCast_nonneg _
          have i4 : (k : Int) < (l.length : Int) := by omega
          go_wp2_with fail
          all_goals
            go_roundw
            case rel => exact ⟨k + 1, by omega, by go_num, by rw [HS.out], by trivial⟩
            case measure => simp [intOf]; omega
        · have hke : k = l.length := by omega
          subst hke
          have hub := upTo_bd HR.out l.length (Nat.le_refl _)
          have hub1 := hub.1
          have hub2 := hub.2.1
          have hB5 : Below w.heap.size w w5 := hB4.trans (hbel.mono hsz1)
          clear hub
          go_wp2_with fail
          go_loopw [12, 11] (fun ix ov wr => ∃ (k : Nat) (A3 : Option Addr) (cap3 : Nat), k ≤ l.length ∧ ix = .int .i64 k ∧ ov = .slice A3 (critL l k).length cap3 ∧
            Hid (wr.ownsRow w5.heap.size 9 1 (.slice A3 (critL l k).length cap3) (critL l k).length ((critL l k).map Value.string)) ∧ Below w5.heap.size w5 wr) (fun ix _ _ => l.length - (intOf ix).toNat)
          case atStart => exact ⟨0, none, 0, Nat.zero_le _, rfl, rfl, World.ownsRow_nil _ _ _ _, Below.refl _ _⟩
          case round =>
            obtain ⟨k, A3, cap3, hk, rfl, rfl, Hout, hbe⟩ := hrel
            have hO5 := Hown.out.lt
            have hbx : Below O2 w4 wr := hbel.trans (hbe.mono (Nat.le_of_lt hO5))
            by_cases hkl : k < l.length
            · obtain ⟨b0, off0, rfl, hb0, hct⟩ := (HT4.out wr hbx).cells hkl
              obtain ⟨t0, t1, -, -, -⟩ := hct k hkl
              rw [← lenAt_eq hkl] at t1
              have u1 := HU5.out wr hbx k hkl
              have hd1 := (Hown.out.below hbe).cell HDn.out.len hkl
              rw [HDw.out k hkl] at hd1
              have hua := up_bd HR.out hkl
              have hda := down_bd HR.out hkl
              have hla := lenAt_bd HR.out k
              have HCI : Hid (critI l k = upI l k + downI l k - lenAt l k) := rfl
              have hsz := hbe.size
              have hcl := critL_len (l := l) k
              have HNm : Hid ((names l).getD k ⟨#[]⟩ = l[k].name) := by unfold Hid names; rw [List.getD_eq_getElem?_getD, List.getElem?_map, List.getElem?_eq_getElem hkl]; rfl
              have HL1 : Hid (critI l k = upTo l l.length → critL l (k + 1) = critL l k ++ [l[k].name]) := fun hq => by rw [critL, if_pos hq, HNm.out]
              have HL2 : Hid (¬ critI l k = upTo l l.length → critL l (k + 1) = critL l k) := fun hq => by rw [critL, if_neg hq]
              rw [HCI.out] at HL1 HL2
              clear hct HCI HNm
              generalize upI l k = ua at *
              generalize downI l k = da at *
              generalize lenAt l k = la at *
              have w1' : IntKind.i64.wrap (ua + da) = ua + da := IntWalk.i64_in _ (by omega)
              have w2' : IntKind.i64.wrap (ua + da - la) = ua + da - la := IntWalk.i64_in _ (by omega)
              have i3 : (0 : Int) ≤ (k : Int) := Int.natCast_nonneg _
              have i4 : (k : Int) < (l.length : Int) := by omega
              by_cases hq : ua + da - la = upTo l l.length
              · have HL' := Lib.hid (HL1.out hq)
                have hb : (ua + da - la == upTo l l.length) = true := by simpa using hq
                clear hq HL1 HL2
                go_wp2_with fail
                go_quiet (fail)
                go_wp2_with (at_builtin; refine wpList_pushN _ rfl (.tmp 118) (.tmp 124) 25 rfl w5.heap.size 9 info_str Try.underlying25 rfl _ (critL l k).length _ rfl (own_drewN Hout.out _) (.string l[k].name) rfl wr.heap.size (by simp) rfl (by unfold maxLen; omega) (by omega) hsz ?_; intro g3 cap6 w6 hown6 hg6 hbg6 hgg6)
                have hown6' : w6.ownsRow w5.heap.size 9 1 (.slice (some ⟨g3, 0, none⟩) (critL l (k + 1)).length cap6) (critL l (k + 1)).length ((critL l (k + 1)).map Value.string) := by
                  rw [HL'.out, List.length_append, List.length_singleton, List.map_append]
                  exact hown6
                have hb6 := (below_drewN hbe _).grown hg6 (by simpa using hsz) (fun k hk => (Hout.out.lt k hk).1)
                have Hown6 := Lib.hid hown6'
                clear hown6 hown6' hg6 hgg6
                go_roundw
                case rel => exact ⟨k + 1, some ⟨g3, 0, none⟩, cap6, by omega, by go_num, by rw [HL'.out, List.length_append, List.length_singleton], Hown6, hb6⟩
                case measure => simp [intOf]; omega
              · have HL' := Lib.hid (HL2.out hq)
                have hb : (ua + da - la == upTo l l.length) = false := by simpa using hq
                clear hq HL1 HL2
                go_wp2_with fail
                go_quiet (fail)
                go_wp2_with fail
                go_roundw
                case rel => exact ⟨k + 1, A3, cap3, by omega, by go_num, by rw [HL'.out], by rw [HL'.out]; exact Lib.hid (own_drewN Hout.out _), below_drewN hbe _⟩
                case measure => simp [intOf]; omega
            · have hke : k = l.length := by omega
              subst hke
              go_wp2_with fail
              go_ret
              exact ⟨hB5.trans (hbe.mono hB5.size), A3, cap3, rfl, own_mono Hout.out hB5.size⟩

end Go.Proofs.Ytcjejcbikgcnbaa
