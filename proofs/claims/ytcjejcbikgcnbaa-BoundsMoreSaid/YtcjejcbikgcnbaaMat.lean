/- A square table of booleans in memory: a row of rows. -/
import Derived.Test.YtcjejcbikgcnbaaReach
namespace Go.Proofs.Ytcjejcbikgcnbaa
open Go.RowKit Go.Shelf

/-- Block M holds n slices, of which the first r are rows of n booleans, in blocks of their own. -/
structure MatR (w : World) (B M : Nat) (D : Nat → Nat) (n r : Nat) (b : Nat → Nat → Bool) : Prop where
  top : ∃ cs, Blk w M 89 cs ∧ cs.size = n ∧ ∀ i, i < r → cs[i]? = some (.slice (some ⟨D i, 0, none⟩) n n)
  row : ∀ i, i < r → ∃ cs, Blk w (D i) 4 cs ∧ cs.size = n ∧ ∀ k, k < n → cs[k]? = some (.bool (b i k))
  inj : ∀ i j, i < r → j < r → D i = D j → i = j
  lo : B ≤ M
  los : ∀ i, i < r → B ≤ D i
variable {w : World} {B M n r : Nat} {D : Nat → Nat} {b : Nat → Nat → Bool}
theorem MatR.topLt (h : MatR w B M D n r b) : M < w.heap.size := by
  obtain ⟨cs, h1, _⟩ := h.top
  exact h1.lt
theorem MatR.rowLt (h : MatR w B M D n r b) {i : Nat} (hi : i < r) : D i < w.heap.size := by
  obtain ⟨cs, h1, _⟩ := h.row i hi
  exact h1.lt
theorem MatR.ne (h : MatR w B M D n r b) {i : Nat} (hi : i < r) : D i ≠ M := by
  obtain ⟨cs, h1, _⟩ := h.row i hi
  obtain ⟨cs', h2, _⟩ := h.top
  intro e
  unfold Blk at h1 h2
  rw [e, h2] at h1
  have := Option.some.inj h1
  injection this with _ e2
  exact absurd e2 (by decide)
theorem MatR.below {w' : World} {B' : Nat} (h : MatR w B M D n r b) (hb : Below B' w w') (hB : w.heap.size ≤ B') : MatR w' B M D n r b := by
  refine ⟨?_, fun i hi => ?_, h.inj, h.lo, h.los⟩
  · obtain ⟨cs, h1, h2⟩ := h.top
    exact ⟨cs, h1.below hb (by have := h1.lt; omega), h2⟩
  · obtain ⟨cs, h1, h2⟩ := h.row i hi
    exact ⟨cs, h1.below hb (by have := h1.lt; omega), h2⟩
theorem MatR.alloc (h : MatR w B M D n r b) (o : Obj) : MatR (w.alloc o) B M D n r b := h.below ((Below.refl w.heap.size w).alloc (Nat.le_refl _) o) (Nat.le_refl _)
theorem MatR.drewN (h : MatR w B M D n r b) (q : Nat) : MatR (w.drewN q) B M D n r b := h.below (below_drewN (Below.refl w.heap.size w) q) (Nat.le_refl _)
theorem MatR.topCell (h : MatR w B M D n r b) {i : Nat} (hi : i < r) : w.cell? ⟨M, i, none⟩ = some (.slice (some ⟨D i, 0, none⟩) n n) := by
  obtain ⟨cs, h1, _, h2⟩ := h.top
  rw [h1.cell i, h2 i hi]
theorem MatR.cell (h : MatR w B M D n r b) {i k : Nat} (hi : i < r) (hk : k < n) : w.cell? ⟨D i, k, none⟩ = some (.bool (b i k)) := by
  obtain ⟨cs, h1, _, h2⟩ := h.row i hi
  rw [h1.cell k, h2 k hk]
theorem MatR.frozen (h : MatR w B M D n r b) {i : Nat} (hi : i < r) (k : Nat) : w.frozen? ⟨D i, k, none⟩ = false := by
  obtain ⟨cs, h1, _⟩ := h.row i hi
  exact h1.frozen k
theorem MatR.topFree (h : MatR w B M D n r b) {i : Nat} (hi : i < n) : (∃ v, w.cell? ⟨M, i, none⟩ = some v) ∧ w.frozen? ⟨M, i, none⟩ = false := by
  obtain ⟨cs, h1, h2, _⟩ := h.top
  exact ⟨⟨cs[i]'(by omega), by rw [h1.cell i, Array.getElem?_eq_getElem (by omega)]⟩, h1.frozen i⟩
/-- One boolean is written. -/
theorem MatR.set_ (h : MatR w B M D n r b) {i k : Nat} (hi : i < r) (_hk : k < n) (v : Bool) : MatR (w.setCell ⟨D i, k, none⟩ (.bool v)) B M D n r (setB b i k v) := by
  refine ⟨?_, fun j hj => ?_, h.inj, h.lo, h.los⟩
  · obtain ⟨cs, h1, h2⟩ := h.top
    exact ⟨cs, h1.far (fun e => h.ne hi e.symm) _, h2⟩
  · obtain ⟨cs, h1, h2, h3⟩ := h.row j hj
    by_cases e : j = i
    · subst e
      refine ⟨_, h1.set_ k _, by simpa using h2, fun y hy => ?_⟩
      unfold setB
      by_cases ey : y = k
      · subst ey
        rw [if_pos ⟨rfl, rfl⟩, Array.getElem?_setIfInBounds_self_of_lt (by omega)]
      · rw [if_neg (fun hh => ey hh.2), Array.getElem?_setIfInBounds_ne (fun hh => ey hh.symm)]
        exact h3 y hy
    · refine ⟨cs, h1.far (fun hh => e (h.inj j i hj hi hh)) _, h2, fun y hy => ?_⟩
      unfold setB
      rw [if_neg (fun hh => e hh.1)]
      exact h3 y hy
/-- A new row is laid. -/
theorem MatR.lay (h : MatR w B M D n r b) (hr : r < n) {g : Nat} {cs : Array Value} (hg : Blk w g 4 cs) (hcs : cs.size = n) (hz : ∀ k, k < n → cs[k]? = some (.bool (b r k))) (hB : B ≤ g) (hne : ∀ i, i < r → D i ≠ g) :
    MatR (w.setCell ⟨M, r, none⟩ (.slice (some ⟨g, 0, none⟩) n n)) B M (fun i => if i = r then g else D i) n (r + 1) b := by
  have hgM : g ≠ M := by
    obtain ⟨cs', h2, _⟩ := h.top
    intro e
    unfold Blk at hg h2
    rw [e, h2] at hg
    have := Option.some.inj hg
    injection this with _ e2
    exact absurd e2 (by decide)
  refine ⟨?_, fun i hi => ?_, fun i j hi hj e => ?_, h.lo, fun i hi => ?_⟩
  · obtain ⟨cs', h1, h2, h3⟩ := h.top
    refine ⟨_, h1.set_ r _, by simpa using h2, fun i hi => ?_⟩
    by_cases e : i = r
    · subst e
      rw [if_pos rfl, Array.getElem?_setIfInBounds_self_of_lt (by omega)]
    · rw [if_neg e, Array.getElem?_setIfInBounds_ne (fun hh => e hh.symm)]
      exact h3 i (by omega)
  · by_cases e : i = r
    · subst e
      simp only [if_pos]
      exact ⟨cs, hg.far hgM _, hcs, hz⟩
    · simp only [if_neg e]
      obtain ⟨cs', h1, h2⟩ := h.row i (by omega)
      exact ⟨cs', h1.far (h.ne (by omega)) _, h2⟩
  · by_cases ei : i = r
    · by_cases ej : j = r
      · omega
      · simp only [if_pos ei, if_neg ej] at e
        exact absurd e.symm (hne j (by omega))
    · by_cases ej : j = r
      · simp only [if_neg ei, if_pos ej] at e
        exact absurd e (hne i (by omega))
      · simp only [if_neg ei, if_neg ej] at e
        exact h.inj i j (by omega) (by omega) e
  · by_cases e : i = r
    · simp only [if_pos e]; exact hB
    · simp only [if_neg e]; exact h.los i (by omega)

end Go.Proofs.Ytcjejcbikgcnbaa
