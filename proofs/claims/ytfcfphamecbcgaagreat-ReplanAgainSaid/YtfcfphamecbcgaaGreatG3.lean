/- Parts of the proof, laid into one text: Reach, Mat, Comes, Excl, Heavy, Example, Long. -/
import Derived.Deep.LoopGhost
import Derived.IntWalk
import Derived.Laws.BitsLemmas
import Derived.Laws.EntriesVeiled
import Derived.Test.YtfcfphamecbcgaaGreatG1
import Derived.Test.YtfcfphamecbcgaaGreatG2
import Derived.WalkMore

/- Which task comes before which: over one or several steps. No program in sight. -/
namespace Go.Proofs.YtfcfphamecbcgaaGreat

/-- Task i comes before task k. -/
def reach (l : List Task) (i k : Nat) : Prop := ∃ z, Chain l (i :: z ++ [k])
theorem reach_one {l : List Task} {i k : Nat} (h : edge l i k) : reach l i k := ⟨[], Chain.cons_iff.2 ⟨h, Chain.one h.2.1⟩⟩
theorem reach_trans {l : List Task} {i m k : Nat} (h : reach l i m) (h' : reach l m k) : reach l i k := by
  obtain ⟨z, hz⟩ := h
  obtain ⟨z', hz'⟩ := h'
  refine ⟨z ++ m :: z', ?_⟩
  have h1 : Chain l (i :: z) := hz.front
  have h2 : nextOK l (i :: z) m := fun hp => hz.last_edge hp
  have := chain_app (z := z' ++ [k]) h1 (by simpa using hz') h2
  simpa using this
/-- One step first, then the rest. -/
theorem reach_iff {l : List Task} {i k : Nat} : reach l i k ↔ ∃ x, edge l x k ∧ (x = i ∨ reach l i x) := by
  constructor
  · rintro ⟨z, hz⟩
    rcases List.eq_nil_or_concat z with rfl | ⟨z', x, rfl⟩
    · exact ⟨i, (Chain.cons_iff.1 hz).1, .inl rfl⟩
    · have h1 : Chain l ((i :: z' ++ [x]) ++ [k]) := by simpa using hz
      have h2 : Chain l ((i :: z') ++ (x :: [k])) := by simpa using hz
      exact ⟨x, (Chain.cons_iff.1 (chain_back h2)).1, .inr ⟨z', h1.front⟩⟩
  · rintro ⟨x, he, rfl | h⟩
    · exact reach_one he
    · exact reach_trans h (reach_one he)
theorem reach_lt {l : List Task} {i k : Nat} (h : reach l i k) : i < l.length ∧ k < l.length := by
  obtain ⟨z, hz⟩ := h
  exact ⟨hz.1 i (by simp), hz.1 k (by simp)⟩

/-- With all tasks between below m. -/
def via (l : List Task) : Nat → Nat → Nat → Prop
  | 0, i, k => edge l i k
  | m + 1, i, k => via l m i k ∨ via l m i m ∧ via l m m k
theorem via_reach {l : List Task} : ∀ {m i k : Nat}, via l m i k → reach l i k
  | 0, _, _, h => reach_one h
  | _ + 1, _, _, .inl h => via_reach h
  | _ + 1, _, _, .inr h => reach_trans (via_reach h.1) (via_reach h.2)
theorem split_first {m : Nat} : ∀ {z : List Nat}, m ∈ z → ∃ a b, z = a ++ m :: b ∧ m ∉ a
  | x :: z, h => by
    by_cases e : x = m
    · subst e; exact ⟨[], z, rfl, by simp⟩
    · rw [List.mem_cons] at h
      rcases h with h | h
      · exact absurd h.symm e
      · obtain ⟨a, b, rfl, hn⟩ := split_first h
        refine ⟨x :: a, b, rfl, ?_⟩
        rw [List.mem_cons]
        rintro (h | h)
        · exact e h.symm
        · exact hn h
theorem split_last {m : Nat} : ∀ {z : List Nat}, m ∈ z → ∃ a b, z = a ++ m :: b ∧ m ∉ b
  | x :: z, h => by
    by_cases hz : m ∈ z
    · obtain ⟨a, b, rfl, hn⟩ := split_last hz
      exact ⟨x :: a, b, rfl, hn⟩
    · rw [List.mem_cons] at h
      rcases h with rfl | h
      · exact ⟨[], z, rfl, hz⟩
      · exact absurd h hz
theorem chain_via {l : List Task} : ∀ (m i k : Nat) (z : List Nat), Chain l (i :: z ++ [k]) → (∀ x ∈ z, x < m) → via l m i k
  | 0, i, k, [], h, _ => (Chain.cons_iff.1 h).1
  | 0, i, k, x :: z, _, hx => absurd (hx x (by simp)) (Nat.not_lt_zero _)
  | m + 1, i, k, z, h, hx => by
    by_cases hm : m ∈ z
    · right
      refine ⟨?_, ?_⟩
      · obtain ⟨a, b, rfl, hn⟩ := split_first hm
        have h1 : Chain l ((i :: a ++ [m]) ++ (b ++ [k])) := by simpa using h
        exact chain_via m i m a h1.front fun x hxa => by
          have := hx x (by simp [hxa])
          have : x ≠ m := fun e => hn (e ▸ hxa)
          omega
      · obtain ⟨a, b, rfl, hn⟩ := split_last hm
        have h1 : Chain l ((i :: a) ++ (m :: b ++ [k])) := by simpa using h
        exact chain_via m m k b (chain_back h1) fun x hxb => by
          have := hx x (by simp [hxb])
          have : x ≠ m := fun e => hn (e ▸ hxb)
          omega
    · left
      exact chain_via m i k z h fun x hxz => by
        have := hx x hxz
        have : x ≠ m := fun e => hm (e ▸ hxz)
        omega
theorem reach_via {l : List Task} {i k : Nat} : reach l i k ↔ via l l.length i k := by
  constructor
  · rintro ⟨z, hz⟩
    exact chain_via _ i k z hz fun x hx => hz.1 x (by simp [hx])
  · exact via_reach

/-- The table b in stage m, all pairs ahead of (i, k) being done. -/
structure Stage (l : List Task) (m i k : Nat) (b : Nat → Nat → Bool) : Prop where
  sound : ∀ x y, b x y = true → reach l x y
  old : ∀ x y, x < l.length → y < l.length → via l m x y → b x y = true
  new : ∀ x y, x < l.length → y < l.length → x < i ∨ x = i ∧ y < k → via l (m + 1) x y → b x y = true
def setB (b : Nat → Nat → Bool) (i k : Nat) (v : Bool) : Nat → Nat → Bool := fun x y => if x = i ∧ y = k then v else b x y
theorem Stage.start {l : List Task} {b : Nat → Nat → Bool} (h1 : ∀ x y, b x y = true → reach l x y) {m : Nat} (h2 : ∀ x y, x < l.length → y < l.length → via l m x y → b x y = true) : Stage l m 0 0 b :=
  ⟨h1, h2, fun x y _ _ h => by omega⟩
theorem Stage.step {l : List Task} {m i k : Nat} {b : Nat → Nat → Bool} (h : Stage l m i k b) (hm : m < l.length) (hi : i < l.length) (hk : k < l.length) : Stage l m i (k + 1) (setB b i k (b i k || b i m && b m k)) := by
  refine ⟨fun x y hb => ?_, fun x y hx hy hv => ?_, fun x y hx hy hd hv => ?_⟩
  · unfold setB at hb
    split at hb
    · rename_i e
      obtain ⟨rfl, rfl⟩ := e
      rw [Bool.or_eq_true, Bool.and_eq_true] at hb
      rcases hb with hb | ⟨hb, hb'⟩
      · exact h.sound _ _ hb
      · exact reach_trans (h.sound _ _ hb) (h.sound _ _ hb')
    · exact h.sound _ _ hb
  · unfold setB
    split
    · rename_i e
      obtain ⟨rfl, rfl⟩ := e
      rw [h.old _ _ hx hy hv]; rfl
    · exact h.old _ _ hx hy hv
  · unfold setB
    split
    · rename_i e
      obtain ⟨rfl, rfl⟩ := e
      rcases hv with hv | ⟨hv, hv'⟩
      · rw [h.old _ _ hx hy hv]; rfl
      · rw [h.old _ _ hx hm hv, h.old _ _ hm hy hv']; simp
    · rename_i e
      exact h.new _ _ hx hy (by omega) hv
theorem Stage.row {l : List Task} {m i : Nat} {b : Nat → Nat → Bool} (h : Stage l m i l.length b) : Stage l m (i + 1) 0 b :=
  ⟨h.sound, h.old, fun x y hx hy hd hv => h.new x y hx hy (by omega) hv⟩
theorem Stage.up {l : List Task} {m : Nat} {b : Nat → Nat → Bool} (h : Stage l m l.length 0 b) : Stage l (m + 1) 0 0 b :=
  Stage.start h.sound fun x y hx hy hv => h.new x y hx hy (by omega) hv
theorem Stage.done {l : List Task} {b : Nat → Nat → Bool} (h : Stage l l.length 0 0 b) {x y : Nat} (hx : x < l.length) (hy : y < l.length) : b x y = true ↔ reach l x y :=
  ⟨h.sound x y, fun hr => h.old x y hx hy (reach_via.1 hr)⟩

end Go.Proofs.YtfcfphamecbcgaaGreat

/- A square table of booleans in memory: a row of rows. -/
namespace Go.Proofs.YtfcfphamecbcgaaGreat
open Go.RowKit Go.Shelf

/-- Block M holds n slices, of which the first r are rows of n booleans, in blocks of their own. -/
structure MatR (w : World) (B M : Nat) (D : Nat → Nat) (n r : Nat) (b : Nat → Nat → Bool) : Prop where
  top : ∃ cs, Blk w M 80 cs ∧ cs.size = n ∧ ∀ i, i < r → cs[i]? = some (.slice (some ⟨D i, 0, none⟩) n n)
  row : ∀ i, i < r → ∃ cs, Blk w (D i) 4 cs ∧ cs.size = n ∧ ∀ k, k < n → cs[k]? = some (.bool (b i k))
  inj : ∀ i j, i < r → j < r → D i = D j → i = j
  lo : B ≤ M
  los : ∀ i, i < r → B ≤ D i
variable {w : World} {B M n r : Nat} {D : Nat → Nat} {b : Nat → Nat → Bool}
theorem MatR.topLt (h : MatR w B M D n r b) : M < w.heap.size := by
  obtain ⟨cs, h1, _⟩ := h.top
  exact h1.lt
theorem MatR.rowLt (h : MatR w B M D n r b) {i : Nat} (hi : i < r) : D i < w.heap.size := by
  obtain ⟨cs, h1, _⟩ := h.row i hi
  exact h1.lt
theorem MatR.ne (h : MatR w B M D n r b) {i : Nat} (hi : i < r) : D i ≠ M := by
  obtain ⟨cs, h1, _⟩ := h.row i hi
  obtain ⟨cs', h2, _⟩ := h.top
  intro e
  unfold Blk at h1 h2
  rw [e, h2] at h1
  have := Option.some.inj h1
  injection this with _ e2
  exact absurd e2 (by decide)
theorem MatR.below {w' : World} {B' : Nat} (h : MatR w B M D n r b) (hb : Below B' w w') (hB : w.heap.size ≤ B') : MatR w' B M D n r b := by
  refine ⟨?_, fun i hi => ?_, h.inj, h.lo, h.los⟩
  · obtain ⟨cs, h1, h2⟩ := h.top
    exact ⟨cs, h1.below hb (by have := h1.lt; omega), h2⟩
  · obtain ⟨cs, h1, h2⟩ := h.row i hi
    exact ⟨cs, h1.below hb (by have := h1.lt; omega), h2⟩
theorem MatR.alloc (h : MatR w B M D n r b) (o : Obj) : MatR (w.alloc o) B M D n r b := h.below ((Below.refl w.heap.size w).alloc (Nat.le_refl _) o) (Nat.le_refl _)
theorem MatR.drewN (h : MatR w B M D n r b) (q : Nat) : MatR (w.drewN q) B M D n r b := h.below (below_drewN (Below.refl w.heap.size w) q) (Nat.le_refl _)
theorem MatR.topCell (h : MatR w B M D n r b) {i : Nat} (hi : i < r) : w.cell? ⟨M, i, none⟩ = some (.slice (some ⟨D i, 0, none⟩) n n) := by
  obtain ⟨cs, h1, _, h2⟩ := h.top
  rw [h1.cell i, h2 i hi]
theorem MatR.cell (h : MatR w B M D n r b) {i k : Nat} (hi : i < r) (hk : k < n) : w.cell? ⟨D i, k, none⟩ = some (.bool (b i k)) := by
  obtain ⟨cs, h1, _, h2⟩ := h.row i hi
  rw [h1.cell k, h2 k hk]
theorem MatR.frozen (h : MatR w B M D n r b) {i : Nat} (hi : i < r) (k : Nat) : w.frozen? ⟨D i, k, none⟩ = false := by
  obtain ⟨cs, h1, _⟩ := h.row i hi
  exact h1.frozen k
theorem MatR.topFree (h : MatR w B M D n r b) {i : Nat} (hi : i < n) : (∃ v, w.cell? ⟨M, i, none⟩ = some v) ∧ w.frozen? ⟨M, i, none⟩ = false := by
  obtain ⟨cs, h1, h2, _⟩ := h.top
  exact ⟨⟨cs[i]'(by omega), by rw [h1.cell i, Array.getElem?_eq_getElem (by omega)]⟩, h1.frozen i⟩
/-- One boolean is written. -/
theorem MatR.set_ (h : MatR w B M D n r b) {i k : Nat} (hi : i < r) (_hk : k < n) (v : Bool) : MatR (w.setCell ⟨D i, k, none⟩ (.bool v)) B M D n r (setB b i k v) := by
  refine ⟨?_, fun j hj => ?_, h.inj, h.lo, h.los⟩
  · obtain ⟨cs, h1, h2⟩ := h.top
    exact ⟨cs, h1.far (fun e => h.ne hi e.symm) _, h2⟩
  · obtain ⟨cs, h1, h2, h3⟩ := h.row j hj
    by_cases e : j = i
    · subst e
      refine ⟨_, h1.set_ k _, by simpa using h2, fun y hy => ?_⟩
      unfold setB
      by_cases ey : y = k
      · subst ey
        rw [if_pos ⟨rfl, rfl⟩, Array.getElem?_setIfInBounds_self_of_lt (by omega)]
      · rw [if_neg (fun hh => ey hh.2), Array.getElem?_setIfInBounds_ne (fun hh => ey hh.symm)]
        exact h3 y hy
    · refine ⟨cs, h1.far (fun hh => e (h.inj j i hj hi hh)) _, h2, fun y hy => ?_⟩
      unfold setB
      rw [if_neg (fun hh => e hh.1)]
      exact h3 y hy
/-- A new row is laid. -/
theorem MatR.lay (h : MatR w B M D n r b) (hr : r < n) {g : Nat} {cs : Array Value} (hg : Blk w g 4 cs) (hcs : cs.size = n) (hz : ∀ k, k < n → cs[k]? = some (.bool (b r k))) (hB : B ≤ g) (hne : ∀ i, i < r → D i ≠ g) :
    MatR (w.setCell ⟨M, r, none⟩ (.slice (some ⟨g, 0, none⟩) n n)) B M (fun i => if i = r then g else D i) n (r + 1) b := by
  have hgM : g ≠ M := by
    obtain ⟨cs', h2, _⟩ := h.top
    intro e
    unfold Blk at hg h2
    rw [e, h2] at hg
    have := Option.some.inj hg
    injection this with _ e2
    exact absurd e2 (by decide)
  refine ⟨?_, fun i hi => ?_, fun i j hi hj e => ?_, h.lo, fun i hi => ?_⟩
  · obtain ⟨cs', h1, h2, h3⟩ := h.top
    refine ⟨_, h1.set_ r _, by simpa using h2, fun i hi => ?_⟩
    by_cases e : i = r
    · subst e
      rw [if_pos rfl, Array.getElem?_setIfInBounds_self_of_lt (by omega)]
    · rw [if_neg e, Array.getElem?_setIfInBounds_ne (fun hh => e hh.symm)]
      exact h3 i (by omega)
  · by_cases e : i = r
    · subst e
      simp only [if_pos]
      exact ⟨cs, hg.far hgM _, hcs, hz⟩
    · simp only [if_neg e]
      obtain ⟨cs', h1, h2⟩ := h.row i (by omega)
      exact ⟨cs', h1.far (h.ne (by omega)) _, h2⟩
  · by_cases ei : i = r
    · by_cases ej : j = r
      · omega
      · simp only [if_pos ei, if_neg ej] at e
        exact absurd e.symm (hne j (by omega))
    · by_cases ej : j = r
      · simp only [if_neg ei, if_pos ej] at e
        exact absurd e (hne i (by omega))
      · simp only [if_neg ei, if_neg ej] at e
        exact h.inj i j (by omega) (by omega) e
  · by_cases e : i = r
    · simp only [if_pos e]; exact hB
    · simp only [if_neg e]; exact h.los i (by omega)

end Go.Proofs.YtfcfphamecbcgaaGreat

/- bounds.comes: the walk. -/
namespace Go.Proofs.YtfcfphamecbcgaaGreat
open Go.RowKit Go.Shelf

theorem info_sliceB : (Tryz.prog.info? 80).map (fun i => (i.zero, i.size, i.bytes)) = some (some (.slice none 0 0), 1, 24) := by kernel_rfl
theorem own_blk {w : World} {B e g n : Nat} {xs : List Value} (h : w.ownsRow B e 1 (.slice (some ⟨g, 0, none⟩) n n) n xs) : B ≤ g ∧ ∃ cs, Blk w g e cs ∧ cs.size = n ∧ ∀ k : Nat, k < n → cs[k]? = xs[k]? := by
  rcases h.2 with ⟨e', _⟩ | ⟨g', cap', cur, hv, h1, h2, h3, h4, h5, h6⟩
  · injection e' with e1; cases e1
  · injection hv with e1 e2 e3
    injection e1 with e1
    injection e1 with e1
    subst e1 e3
    refine ⟨h1, cur, h2, by omega, fun k hk => ?_⟩
    rw [← h6]
    simp [hk]
    all_goals omega

/-- The table while it is filled: all pairs ahead of (i, k) are done. -/
structure Fill (l : List Task) (i k : Nat) (b : Nat → Nat → Bool) : Prop where
  sound : ∀ x y, b x y = true → edge l x y
  full : ∀ x y, x < l.length → y < l.length → x < i ∨ x = i ∧ y < k → edge l x y → b x y = true
  rest : ∀ x y, ¬ (x < i ∨ x = i ∧ y < k) → b x y = false
theorem Fill.start (l : List Task) : Fill l 0 0 fun _ _ => false := ⟨(fun _ _ h => absurd h (by decide)), (fun x y _ _ h => by omega), (fun _ _ _ => rfl)⟩
theorem Fill.step {l : List Task} {i k : Nat} {b : Nat → Nat → Bool} (h : Fill l i k b) {v : Bool} (hv : v = true ↔ edge l i k) : Fill l i (k + 1) (setB b i k v) := by
  refine ⟨fun x y hb => ?_, fun x y hx hy hd he => ?_, fun x y hd => ?_⟩
  · unfold setB at hb
    split at hb
    · rename_i e; obtain ⟨rfl, rfl⟩ := e; exact hv.1 hb
    · exact h.sound x y hb
  · unfold setB
    split
    · rename_i e; obtain ⟨rfl, rfl⟩ := e; exact hv.2 he
    · rename_i e; exact h.full x y hx hy (by omega) he
  · unfold setB
    rw [if_neg (by omega)]
    exact h.rest x y (by omega)
theorem Fill.row {l : List Task} {i : Nat} {b : Nat → Nat → Bool} (h : Fill l i l.length b) (hlow : ∀ x y, b x y = true → y < l.length) : Fill l (i + 1) 0 b := by
  refine ⟨h.sound, fun x y hx hy hd he => h.full x y hx hy (by omega) he, fun x y hd => ?_⟩
  cases hb : b x y with
  | false => rfl
  | true =>
    have := hlow x y hb
    have := h.rest x y (by omega)
    rw [hb] at this
    exact this
theorem Fill.row' {l : List Task} {i : Nat} {b : Nat → Nat → Bool} (h : Fill l i l.length b) : Fill l (i + 1) 0 b := h.row fun x y hb => (h.sound x y hb).2.1
theorem Fill.stage {l : List Task} {b : Nat → Nat → Bool} (h : Fill l l.length 0 b) : Stage l 0 0 0 b :=
  Stage.start (fun x y hb => reach_one (h.sound x y hb)) fun x y hx hy hv => h.full x y hx hy (by omega) hv

/-- What comes leaves: the table of what comes before what. -/
def ComesPost (l : List Task) (w : World) (e : Ending) (w' : World) : Prop :=
  Below w.heap.size w w' ∧ ∃ M D b, e = .returned (.slice (some ⟨M, 0, none⟩) l.length l.length) ∧ MatR w' w.heap.size M D l.length l.length b ∧ Stage l l.length 0 0 b

end Go.Proofs.YtfcfphamecbcgaaGreat

/- Clique's closure: whether two tasks exclude one another. -/
namespace Go.Proofs.YtfcfphamecbcgaaGreat
open Go.RowKit Go.Shelf

/-- Two tasks exclude one another: by the table b. -/
def exclT (b : Nat → Nat → Bool) (t u : Task) (c p : Int) (i k : Nat) : Bool := b i k || b k i || decide (c < t.crew + u.crew) || decide (p < t.pow + u.pow)

/-- The boxes of Clique: the tasks, the limits, the table. -/
structure CliqueBox (w : World) (P0 P1 P2 P3 : Nat) (v : Value) (c p : Int) (M n : Nat) : Prop where
  b0 : w.cell? ⟨P0, 0, none⟩ = some (.slice (some ⟨M, 0, none⟩) n n)
  b1 : w.cell? ⟨P1, 0, none⟩ = some v
  b2 : w.cell? ⟨P2, 0, none⟩ = some (.int .i64 c)
  b3 : w.cell? ⟨P3, 0, none⟩ = some (.int .i64 p)

theorem bound_sum {a b : Int} (h1 : 0 ≤ a ∧ a ≤ 100) (h2 : 0 ≤ b ∧ b ≤ 100) : IntKind.i64.wrap (a + b) = a + b := IntWalk.i64_in _ (by omega)

end Go.Proofs.YtfcfphamecbcgaaGreat

/- The heaviest clique, by sets of tasks as numbers. No program in sight. -/
namespace Go.Proofs.YtfcfphamecbcgaaGreat

/-- Two tasks exclude one another. -/
def excl (l : List Task) (c p : Int) (i k : Nat) : Prop := ∃ (hi : i < l.length) (hk : k < l.length), reach l i k ∨ reach l k i ∨ c < l[i].crew + l[k].crew ∨ p < l[i].pow + l[k].pow
theorem excl_symm {l : List Task} {c p : Int} {i k : Nat} (h : excl l c p i k) : excl l c p k i := by
  obtain ⟨hi, hk, h⟩ := h
  refine ⟨hk, hi, ?_⟩
  rcases h with h | h | h | h
  · exact .inr (.inl h)
  · exact .inl h
  · exact .inr (.inr (.inl (by omega)))
  · exact .inr (.inr (.inr (by omega)))
theorem exclT_iff {l : List Task} {c p : Int} {i k : Nat} {b : Nat → Nat → Bool} (hS : Stage l l.length 0 0 b) (hi : i < l.length) (hk : k < l.length) : exclT b l[i] l[k] c p i k = true ↔ excl l c p i k := by
  unfold exclT
  simp only [Bool.or_eq_true, decide_eq_true_eq, hS.done hi hk, hS.done hk hi]
  constructor
  · rintro (((h | h) | h) | h)
    · exact ⟨hi, hk, .inl h⟩
    · exact ⟨hi, hk, .inr (.inl h)⟩
    · exact ⟨hi, hk, .inr (.inr (.inl h))⟩
    · exact ⟨hi, hk, .inr (.inr (.inr h))⟩
  · rintro ⟨_, _, h | h | h | h⟩
    · exact .inl (.inl (.inl h))
    · exact .inl (.inl (.inr h))
    · exact .inl (.inr h)
    · exact .inr h

/-- The members below n of a set, in order. -/
def memb (s n : Nat) : List Nat := (List.range n).filter fun i => s.testBit i
theorem memb_zero (s : Nat) : memb s 0 = [] := rfl
theorem memb_succ (s n : Nat) : memb s (n + 1) = if s.testBit n then memb s n ++ [n] else memb s n := by
  unfold memb
  rw [List.range_succ, List.filter_append]
  cases h : s.testBit n <;> simp [h]
theorem mem_memb {s n i : Nat} : i ∈ memb s n ↔ i < n ∧ s.testBit i = true := by
  unfold memb
  rw [List.mem_filter, List.mem_range]
/-- A set's members below n exclude one another. -/
def isClique (l : List Task) (c p : Int) (s n : Nat) : Prop := ∀ i k, i < n → k < i → s.testBit i = true → s.testBit k = true → excl l c p i k
/-- The heaviest clique of the sets below S: of several the first one. -/
structure Heavy (l : List Task) (c p : Int) (S : Nat) (L : Int) (s : Nat) : Prop where
  clique : isClique l c p s l.length
  low : s < 2 ^ l.length
  sum : sumAt l (memb s l.length) = L
  most : ∀ z, z < S → isClique l c p z l.length → sumAt l (memb z l.length) ≤ L
  first : ∀ z, z < S → z < s → isClique l c p z l.length → sumAt l (memb z l.length) < L
  below : s = 0 ∨ s < S
theorem memb_none (n : Nat) : memb 0 n = [] := by
  unfold memb
  simp
theorem Heavy.start (l : List Task) (c p : Int) : Heavy l c p 0 0 0 := by
  refine ⟨fun i k _ _ h => by simp at h, Nat.two_pow_pos _, by rw [memb_none, sumAt_nil], fun z hz => absurd hz (Nat.not_lt_zero z), fun z hz => absurd hz (Nat.not_lt_zero z), .inl rfl⟩
theorem Heavy.no {l : List Task} {c p : Int} {S s : Nat} {L : Int} (h : Heavy l c p S L s) (hno : ¬ isClique l c p S l.length) : Heavy l c p (S + 1) L s := by
  refine ⟨h.clique, h.low, h.sum, fun z hz hc => ?_, fun z hz hs hc => ?_, ?_⟩
  · by_cases e : z = S
    · subst e; exact absurd hc hno
    · exact h.most z (by omega) hc
  · by_cases e : z = S
    · subst e; exact absurd hc hno
    · exact h.first z (by omega) hs hc
  · rcases h.below with h | h
    · exact .inl h
    · exact .inr (by omega)
theorem Heavy.less {l : List Task} {c p : Int} {S s : Nat} {L : Int} (h : Heavy l c p S L s) (hno : ¬ L < sumAt l (memb S l.length)) : Heavy l c p (S + 1) L s := by
  refine ⟨h.clique, h.low, h.sum, fun z hz hc => ?_, fun z hz hs hc => ?_, ?_⟩
  · by_cases e : z = S
    · subst e; omega
    · exact h.most z (by omega) hc
  · by_cases e : z = S
    · subst e
      rcases h.below with h | h <;> omega
    · exact h.first z (by omega) hs hc
  · rcases h.below with h | h
    · exact .inl h
    · exact .inr (by omega)
theorem Heavy.more {l : List Task} {c p : Int} {S s : Nat} {L : Int} (h : Heavy l c p S L s) (hS : S < 2 ^ l.length) (hc : isClique l c p S l.length) (hlt : L < sumAt l (memb S l.length)) : Heavy l c p (S + 1) (sumAt l (memb S l.length)) S := by
  refine ⟨hc, hS, rfl, fun z hz hc' => ?_, fun z hz hs hc' => ?_, .inr (by omega)⟩
  · by_cases e : z = S
    · subst e; exact Int.le_refl _
    · have := h.most z (by omega) hc'; omega
  · have := h.most z hs hc'; omega
theorem Heavy.uniq {l : List Task} {c p : Int} {s s' : Nat} {L L' : Int} (h : Heavy l c p (2 ^ l.length) L s) (h' : Heavy l c p (2 ^ l.length) L' s') : L = L' ∧ s = s' := by
  have e : L = L' := by
    have h1 := h.most s' h'.low h'.clique
    have h2 := h'.most s h.low h.clique
    have h3 := h.sum
    have h4 := h'.sum
    omega
  subst e
  refine ⟨rfl, ?_⟩
  rcases Nat.lt_trichotomy s s' with hlt | e | hlt
  · have := h'.first s h.low hlt h.clique
    have := h.sum
    omega
  · exact e
  · have := h.first s' h'.low hlt h'.clique
    have := h'.sum
    omega

end Go.Proofs.YtfcfphamecbcgaaGreat

/- The law's example. -/
namespace Go.Proofs.YtfcfphamecbcgaaGreat
open Go.RowKit Go.Shelf

def exA : ByteArray := ⟨#[97]⟩
def exB : ByteArray := ⟨#[98]⟩
def exC : ByteArray := ⟨#[99]⟩
/-- The tasks of the example; their Before lies in block g. -/
def exTasks (g : Nat) : List Task := [⟨exA, 5, 2, 0, none, 0, []⟩, ⟨exB, 3, 2, 0, none, 0, []⟩, ⟨exC, 4, 1, 0, some ⟨g, 0, none⟩, 1, [exA]⟩]

end Go.Proofs.YtfcfphamecbcgaaGreat

/- The law's bound on its tasks. -/
namespace Go.Proofs.YtfcfphamecbcgaaGreat
open Go.RowKit Go.Shelf

def longS (s : ByteArray) : Bool := decide (60 < s.size)
def longT (t : Task) : Bool := decide (60 < t.name.size) || decide (12 < t.bef.length) || t.bef.any longS
def longL (l : List Task) : Bool := decide (10 < l.length) || l.any longT

end Go.Proofs.YtfcfphamecbcgaaGreat
