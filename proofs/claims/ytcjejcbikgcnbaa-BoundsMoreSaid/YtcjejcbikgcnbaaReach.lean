/- Which task comes before which: over one or several steps. No program in sight. -/
import Derived.Test.YtcjejcbikgcnbaaWorkW
namespace Go.Proofs.Ytcjejcbikgcnbaa

/-- Task i comes before task k. -/
def reach (l : List Task) (i k : Nat) : Prop := ∃ z, Chain l (i :: z ++ [k])
theorem reach_one {l : List Task} {i k : Nat} (h : edge l i k) : reach l i k := ⟨[], Chain.cons_iff.2 ⟨h, Chain.one h.2.1⟩⟩
theorem reach_trans {l : List Task} {i m k : Nat} (h : reach l i m) (h' : reach l m k) : reach l i k := by
  obtain ⟨z, hz⟩ := h
  obtain ⟨z', hz'⟩ := h'
  refine ⟨z ++ m :: z', ?_⟩
  have h1 : Chain l (i :: z) := hz.front
  have h2 : nextOK l (i :: z) m := fun hp => hz.last_edge hp
  have := chain_app (z := z' ++ [k]) h1 (by simpa using hz') h2
  simpa using this
/-- One step first, then the rest. -/
theorem reach_iff {l : List Task} {i k : Nat} : reach l i k ↔ ∃ x, edge l x k ∧ (x = i ∨ reach l i x) := by
  constructor
  · rintro ⟨z, hz⟩
    rcases List.eq_nil_or_concat z with rfl | ⟨z', x, rfl⟩
    · exact ⟨i, (Chain.cons_iff.1 hz).1, .inl rfl⟩
    · have h1 : Chain l ((i :: z' ++ [x]) ++ [k]) := by simpa using hz
      have h2 : Chain l ((i :: z') ++ (x :: [k])) := by simpa using hz
      exact ⟨x, (Chain.cons_iff.1 (chain_back h2)).1, .inr ⟨z', h1.front⟩⟩
  · rintro ⟨x, he, rfl | h⟩
    · exact reach_one he
    · exact reach_trans h (reach_one he)
theorem reach_lt {l : List Task} {i k : Nat} (h : reach l i k) : i < l.length ∧ k < l.length := by
  obtain ⟨z, hz⟩ := h
  exact ⟨hz.1 i (by simp), hz.1 k (by simp)⟩

/-- With all tasks between below m. -/
def via (l : List Task) : Nat → Nat → Nat → Prop
  | 0, i, k => edge l i k
  | m + 1, i, k => via l m i k ∨ via l m i m ∧ via l m m k
theorem via_reach {l : List Task} : ∀ {m i k : Nat}, via l m i k → reach l i k
  | 0, _, _, h => reach_one h
  | _ + 1, _, _, .inl h => via_reach h
  | _ + 1, _, _, .inr h => reach_trans (via_reach h.1) (via_reach h.2)
theorem split_first {m : Nat} : ∀ {z : List Nat}, m ∈ z → ∃ a b, z = a ++ m :: b ∧ m ∉ a
  | x :: z, h => by
    by_cases e : x = m
    · subst e; exact ⟨[], z, rfl, by simp⟩
    · rw [List.mem_cons] at h
      rcases h with h | h
      · exact absurd h.symm e
      · obtain ⟨a, b, rfl, hn⟩ := split_first h
        refine ⟨x :: a, b, rfl, ?_⟩
        rw [List.mem_cons]
        rintro (h | h)
        · exact e h.symm
        · exact hn h
theorem split_last {m : Nat} : ∀ {z : List Nat}, m ∈ z → ∃ a b, z = a ++ m :: b ∧ m ∉ b
  | x :: z, h => by
    by_cases hz : m ∈ z
    · obtain ⟨a, b, rfl, hn⟩ := split_last hz
      exact ⟨x :: a, b, rfl, hn⟩
    · rw [List.mem_cons] at h
      rcases h with rfl | h
      · exact ⟨[], z, rfl, hz⟩
      · exact absurd h hz
theorem chain_via {l : List Task} : ∀ (m i k : Nat) (z : List Nat), Chain l (i :: z ++ [k]) → (∀ x ∈ z, x < m) → via l m i k
  | 0, i, k, [], h, _ => (Chain.cons_iff.1 h).1
  | 0, i, k, x :: z, _, hx => absurd (hx x (by simp)) (Nat.not_lt_zero _)
  | m + 1, i, k, z, h, hx => by
    by_cases hm : m ∈ z
    · right
      refine ⟨?_, ?_⟩
      · obtain ⟨a, b, rfl, hn⟩ := split_first hm
        have h1 : Chain l ((i :: a ++ [m]) ++ (b ++ [k])) := by simpa using h
        exact chain_via m i m a h1.front fun x hxa => by
          have := hx x (by simp [hxa])
          have : x ≠ m := fun e => hn (e ▸ hxa)
          omega
      · obtain ⟨a, b, rfl, hn⟩ := split_last hm
        have h1 : Chain l ((i :: a) ++ (m :: b ++ [k])) := by simpa using h
        exact chain_via m m k b (chain_back h1) fun x hxb => by
          have := hx x (by simp [hxb])
          have : x ≠ m := fun e => hn (e ▸ hxb)
          omega
    · left
      exact chain_via m i k z h fun x hxz => by
        have := hx x hxz
        have : x ≠ m := fun e => hm (e ▸ hxz)
        omega
theorem reach_via {l : List Task} {i k : Nat} : reach l i k ↔ via l l.length i k := by
  constructor
  · rintro ⟨z, hz⟩
    exact chain_via _ i k z hz fun x hx => hz.1 x (by simp [hx])
  · exact via_reach

/-- The table b in stage m, all pairs ahead of (i, k) being done. -/
structure Stage (l : List Task) (m i k : Nat) (b : Nat → Nat → Bool) : Prop where
  sound : ∀ x y, b x y = true → reach l x y
  old : ∀ x y, x < l.length → y < l.length → via l m x y → b x y = true
  new : ∀ x y, x < l.length → y < l.length → x < i ∨ x = i ∧ y < k → via l (m + 1) x y → b x y = true
def setB (b : Nat → Nat → Bool) (i k : Nat) (v : Bool) : Nat → Nat → Bool := fun x y => if x = i ∧ y = k then v else b x y
theorem Stage.start {l : List Task} {b : Nat → Nat → Bool} (h1 : ∀ x y, b x y = true → reach l x y) {m : Nat} (h2 : ∀ x y, x < l.length → y < l.length → via l m x y → b x y = true) : Stage l m 0 0 b :=
  ⟨h1, h2, fun x y _ _ h => by omega⟩
theorem Stage.step {l : List Task} {m i k : Nat} {b : Nat → Nat → Bool} (h : Stage l m i k b) (hm : m < l.length) (hi : i < l.length) (hk : k < l.length) : Stage l m i (k + 1) (setB b i k (b i k || b i m && b m k)) := by
  refine ⟨fun x y hb => ?_, fun x y hx hy hv => ?_, fun x y hx hy hd hv => ?_⟩
  · unfold setB at hb
    split at hb
    · rename_i e
      obtain ⟨rfl, rfl⟩ := e
      rw [Bool.or_eq_true, Bool.and_eq_true] at hb
      rcases hb with hb | ⟨hb, hb'⟩
      · exact h.sound _ _ hb
      · exact reach_trans (h.sound _ _ hb) (h.sound _ _ hb')
    · exact h.sound _ _ hb
  · unfold setB
    split
    · rename_i e
      obtain ⟨rfl, rfl⟩ := e
      rw [h.old _ _ hx hy hv]; rfl
    · exact h.old _ _ hx hy hv
  · unfold setB
    split
    · rename_i e
      obtain ⟨rfl, rfl⟩ := e
      rcases hv with hv | ⟨hv, hv'⟩
      · rw [h.old _ _ hx hy hv]; rfl
      · rw [h.old _ _ hx hm hv, h.old _ _ hm hy hv']; simp
    · rename_i e
      exact h.new _ _ hx hy (by omega) hv
theorem Stage.row {l : List Task} {m i : Nat} {b : Nat → Nat → Bool} (h : Stage l m i l.length b) : Stage l m (i + 1) 0 b :=
  ⟨h.sound, h.old, fun x y hx hy hd hv => h.new x y hx hy (by omega) hv⟩
theorem Stage.up {l : List Task} {m : Nat} {b : Nat → Nat → Bool} (h : Stage l m l.length 0 b) : Stage l (m + 1) 0 0 b :=
  Stage.start h.sound fun x y hx hy hv => h.new x y hx hy (by omega) hv
theorem Stage.done {l : List Task} {b : Nat → Nat → Bool} (h : Stage l l.length 0 0 b) {x y : Nat} (hx : x < l.length) (hy : y < l.length) : b x y = true ↔ reach l x y :=
  ⟨h.sound x y, fun hr => h.old x y hx hy (reach_via.1 hr)⟩

end Go.Proofs.Ytcjejcbikgcnbaa
