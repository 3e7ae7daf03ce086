/- The greatest length of a chain, and the greedy choice of the least longest chain. No program in sight. -/
import Derived.Test.YtcjejcbikgcnbaaRef44
namespace Go.Proofs.Ytcjejcbikgcnbaa

theorem lenAt_pos {l : List Task} (hR : RightT l) {i : Nat} (hi : i < l.length) : 1 ≤ lenAt l i := by
  rw [lenAt_eq hi]
  exact (fieldB_len (hR.field i hi)).1
theorem sumAt_append (l : List Task) (x y : List Nat) : sumAt l (x ++ y) = sumAt l x + sumAt l y := by simp [sumAt]

/-- The greatest of the chains that begin below k. -/
structure MostUp (l : List Task) (k : Nat) (n : Int) : Prop where
  zero : 0 ≤ n
  most : ∀ j, j < k → ∀ m, IsFrom l j m → m ≤ n
  has : n = 0 ∨ ∃ j, j < k ∧ IsFrom l j n
theorem MostUp.start (l : List Task) : MostUp l 0 0 := ⟨Int.le_refl _, fun j h => absurd h (Nat.not_lt_zero j), .inl rfl⟩
theorem MostUp.next {l : List Task} {k : Nat} {n m : Int} (h : MostUp l k n) (hm : IsFrom l k m) : MostUp l (k + 1) (if n < m then m else n) := by
  have hz := h.zero
  by_cases hlt : n < m
  · rw [if_pos hlt]
    refine ⟨by omega, fun j hj m' hm' => ?_, .inr ⟨k, by omega, hm⟩⟩
    by_cases e : j = k
    · subst e; have := hm.uniq hm'; omega
    · have := h.most j (by omega) m' hm'; omega
  · rw [if_neg hlt]
    refine ⟨hz, fun j hj m' hm' => ?_, ?_⟩
    · by_cases e : j = k
      · subst e; have := hm.uniq hm'; omega
      · exact h.most j (by omega) m' hm'
    · rcases h.has with h | ⟨j, h1, h2⟩
      · exact .inl h
      · exact .inr ⟨j, by omega, h2⟩
theorem from_ex {l : List Task} (hR : RightT l) {i : Nat} (hi : i < l.length) : ∃ n, IsFrom l i n := exists_from hR l.length i hi fun _ hz => hz.short hR
theorem MostUp.all {l : List Task} (hR : RightT l) {n : Int} (h : MostUp l l.length n) (z : List Nat) (hz : Chain l z) : sumAt l z ≤ n := by
  cases z with
  | nil => rw [sumAt_nil]; exact h.zero
  | cons i z =>
    have hi := hz.1 i (by simp)
    obtain ⟨m, hm⟩ := from_ex hR hi
    have h1 := hm.most z hz
    have h2 := h.most i hi m hm
    omega

theorem lex_ext : ∀ (p z q : List Nat), lex p z → ¬ p <+: z → lex (p ++ q) z
  | [], z, q, _, h => absurd (List.nil_prefix) h
  | a :: p, [], q, h, _ => absurd h (lex_nil_iff _)
  | a :: p, b :: z, q, h, hp => by
    rcases h with h | ⟨rfl, h⟩
    · exact .inl h
    · exact .inr ⟨rfl, lex_ext p z q h fun hh => hp (by rw [List.cons_prefix_cons]; exact ⟨rfl, hh⟩)⟩
theorem lex_pref : ∀ (p q z : List Nat), lex q z → lex (p ++ q) (p ++ z)
  | [], _, _, h => h
  | _ :: p, q, z, h => .inr ⟨rfl, lex_pref p q z h⟩

/-- Task k may come next. -/
def nextOK (l : List Task) (p : List Nat) (k : Nat) : Prop := ∀ hp : p ≠ [], edge l (p.getLast hp) k
theorem chain_app {l : List Task} {k : Nat} : ∀ {p z : List Nat}, Chain l p → Chain l (k :: z) → nextOK l p k → Chain l (p ++ k :: z)
  | [], z, _, h, _ => h
  | [_], _, _, h, hn => Chain.cons_iff.2 ⟨hn (by simp), h⟩
  | a :: b :: p, z, hp, h, hn => by
    obtain ⟨h1, h2⟩ := Chain.cons_iff.1 hp
    exact Chain.cons_iff.2 ⟨h1, chain_app (p := b :: p) h2 h fun hq => by have := hn (by simp); rwa [List.getLast_cons hq] at this⟩
theorem chain_back {l : List Task} : ∀ {p z : List Nat}, Chain l (p ++ z) → Chain l z
  | [], _, h => h
  | [_], [], _ => Chain.nil l
  | [_], _ :: _, h => (Chain.cons_iff.1 h).2
  | _ :: b :: p, _, h => chain_back (p := b :: p) (Chain.cons_iff.1 h).2
theorem chain_next {l : List Task} {p z : List Nat} {k : Nat} (h : Chain l (p ++ k :: z)) : nextOK l p k := fun hp => by
  have h' : Chain l ((p ++ [k]) ++ z) := by simpa using h
  exact h'.front.last_edge hp

/-- The list p, of which r is missing to the greatest sum M. -/
structure Greedy (l : List Task) (M : Int) (p : List Nat) (r : Int) : Prop where
  chain : Chain l p
  sum : sumAt l p + r = M
  left : 0 ≤ r
  most : ∀ z, Chain l z → sumAt l z ≤ M
  more : 0 < r → ∃ k z, Chain l (p ++ k :: z) ∧ sumAt l (k :: z) = r
  least : ∀ z, Chain l z → sumAt l z = M → p <+: z ∨ lex p z
theorem Greedy.start {l : List Task} (hR : RightT l) {M : Int} (h : MostUp l l.length M) : Greedy l M [] M := by
  refine ⟨Chain.nil l, by simp [sumAt_nil], h.zero, h.all hR, fun h0 => ?_, fun z _ _ => .inl List.nil_prefix⟩
  rcases h.has with h | ⟨j, _, hj⟩
  · omega
  · obtain ⟨z, hz, e⟩ := hj.has
    exact ⟨j, z, hz, e⟩
theorem Greedy.isFrom {l : List Task} {M r : Int} {p z : List Nat} {k : Nat} (h : Greedy l M p r) (hz : Chain l (p ++ k :: z)) (hs : sumAt l (k :: z) = r) : IsFrom l k r := by
  refine ⟨⟨z, chain_back hz, hs⟩, fun z' hz' => ?_⟩
  have := h.most _ (chain_app h.chain hz' (chain_next hz))
  rw [sumAt_append] at this
  have := h.sum
  omega
/-- There is a task that may come next. -/
theorem Greedy.wit {l : List Task} {M r : Int} {p : List Nat} (h : Greedy l M p r) (h0 : 0 < r) : ∃ k, k < l.length ∧ nextOK l p k ∧ IsFrom l k r := by
  obtain ⟨k, z, hz, hs⟩ := h.more h0
  exact ⟨k, hz.1 k (by simp), chain_next hz, h.isFrom hz hs⟩
/-- The least one is taken. -/
theorem Greedy.take {l : List Task} (hR : RightT l) {M r : Int} {p : List Nat} {k : Nat} (h : Greedy l M p r) (h0 : 0 < r) (hk : k < l.length) (hn : nextOK l p k) (hf : IsFrom l k r)
    (hno : ∀ j, j < k → nextOK l p j → ¬ IsFrom l j r) : Greedy l M (p ++ [k]) (r - lenAt l k) := by
  obtain ⟨z, hz, hs⟩ := hf.has
  have hpz := chain_app h.chain hz hn
  have hs' := hs
  rw [sumAt_cons] at hs'
  have hz0 := (sumAt_bd hR z).1
  refine ⟨(show Chain l ((p ++ [k]) ++ z) by simpa using hpz).front, by rw [sumAt_snoc]; have := h.sum; omega, by omega, h.most, fun hpos => ?_, fun z' hz' hs2 => ?_⟩
  · cases z with
    | nil => rw [sumAt_nil] at hs'; omega
    | cons k2 z2 => exact ⟨k2, z2, by simpa using hpz, by omega⟩
  · by_cases hp : p <+: z'
    · obtain ⟨t, rfl⟩ := hp
      rw [sumAt_append] at hs2
      cases t with
      | nil => rw [sumAt_nil] at hs2; have := h.sum; omega
      | cons j t =>
        have hj := h.isFrom hz' (by have := h.sum; omega)
        have hjk : ¬ j < k := fun hlt => hno j hlt (chain_next hz') hj
        by_cases e : j = k
        · subst e; exact .inl ⟨t, by simp⟩
        · refine .inr (lex_pref p [k] (j :: t) (.inl (by omega)))
    · rcases h.least z' hz' hs2 with h' | h'
      · exact absurd h' hp
      · exact .inr (lex_ext p z' [k] h' hp)
theorem Greedy.done {l : List Task} {M r : Int} {p : List Nat} (h : Greedy l M p r) (h0 : ¬ 0 < r) : Covers l [l.length] M p := by
  have hr : r = 0 := by have := h.left; omega
  subst hr
  have hlow : lex p [l.length] := by
    cases p with
    | nil => trivial
    | cons a p => exact .inl (h.chain.1 a (by simp))
  refine ⟨h.chain, hlow, by have := h.sum; omega, fun z hz _ => h.most z hz, fun z hz _ hs => ?_⟩
  rcases h.least z hz hs with ⟨t, rfl⟩ | h'
  · cases t with
    | nil => left; simp
    | cons a t =>
      right
      have := lex_pref p [] (a :: t) trivial
      rwa [List.append_nil] at this
  · exact .inr h'

end Go.Proofs.Ytcjejcbikgcnbaa
