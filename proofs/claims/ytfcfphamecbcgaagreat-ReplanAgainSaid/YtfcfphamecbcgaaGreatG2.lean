/- Parts of the proof, laid into one text: Grow, Path, Ref44, Greedy, Given, Work, RefGiven. -/
import Derived.Deep.RegionHeld3
import Derived.IntWalk
import Derived.Laws.EntriesVeiled
import Derived.Test.YtfcfphamecbcgaaGreatG1

/- (*chain).grow: all chains that begin with the one so far. -/
namespace Go.Proofs.YtfcfphamecbcgaaGreat
open Go.RowKit Go.Shelf

def ints (x : List Nat) : List Int := x.map Int.ofNat
def nats (x : List Nat) : List Value := (ints x).map (Value.int .i64)
theorem nats_snoc (x : List Nat) (i : Nat) : nats (x ++ [i]) = nats x ++ [.int .i64 (i : Int)] := by simp [nats, ints]
theorem length_ints (x : List Nat) : (ints x).length = x.length := by simp [ints]
theorem nats_get (x : List Nat) (i : Nat) (h : i < x.length) : (nats x)[i]? = some (.int .i64 (x[i] : Nat)) := by simp [nats, ints, h]

/-- A block of four cells, read and to be written. -/
theorem blk4 {w : World} {g : Nat} {t : TypeId} {a b c d : Value} (h : Blk w g t #[a, b, c, d]) :
    w.cell? ⟨g, 0, none⟩ = some a ∧ w.cell? ⟨g, 1, none⟩ = some b ∧ w.cell? ⟨g, 2, none⟩ = some c ∧ w.cell? ⟨g, 3, none⟩ = some d ∧
      w.frozen? ⟨g, 0, none⟩ = false ∧ w.frozen? ⟨g, 1, none⟩ = false ∧ w.frozen? ⟨g, 2, none⟩ = false ∧ w.frozen? ⟨g, 3, none⟩ = false :=
  ⟨h.cell 0, h.cell 1, h.cell 2, h.cell 3, h.frozen 0, h.frozen 1, h.frozen 2, h.frozen 3⟩
theorem cloneIntPos (v : Value) (l : List Int) (w : World) (hl : IntsAt w w.heap.size v l) (hlen : l.length ≤ 1000000) (hpos : 0 < l.length) :
    Calls Tryz.prog 22 #[v] w fun e w' => ∃ g c, e = .returned (.slice (some ⟨g, 0, none⟩) l.length c) ∧ w.heap.size ≤ g ∧ w'.ownsRow w.heap.size 3 1 (.slice (some ⟨g, 0, none⟩) l.length c) l.length (l.map (Value.int .i64)) ∧ Below w.heap.size w w' :=
  (cloneInt v l w hl hlen).mono fun e w' ⟨v', he, hown, hb⟩ => by
    obtain ⟨g, c, rfl, hg, -⟩ := hown.form hpos
    exact ⟨g, c, he, hg, hown, hb⟩

end Go.Proofs.YtfcfphamecbcgaaGreat

/- bounds.Path. -/
namespace Go.Proofs.YtfcfphamecbcgaaGreat
open Go.RowKit Go.Shelf

theorem info_str : (Tryz.prog.info? 9).map (fun i => (i.zero, i.size, i.bytes)) = some (some (.string ⟨#[]⟩), 1, 16) := by kernel_rfl
theorem own_one (w : World) (base e : Nat) (u : Value) (hb : base ≤ w.heap.size) : (w.alloc (.cells #[u] e)).ownsRow base e 1 (.slice (some ⟨w.heap.size, 0, none⟩) 1 1) 1 [u] :=
  ⟨rfl, .inr ⟨w.heap.size, 1, #[u], rfl, hb, heap_alloc_new w _, Nat.le_refl _, by unfold maxLen; omega, rfl, rfl⟩⟩
/-- The names of tasks by their indices. -/
def nmsAt (l : List Task) (y : List Nat) : List ByteArray := y.map fun i => (names l).getD i ⟨#[]⟩
theorem nmsAt_snoc (l : List Task) (y : List Nat) {i : Nat} (hi : i < l.length) : nmsAt l (y ++ [i]) = nmsAt l y ++ [l[i].name] := by
  unfold nmsAt names
  rw [List.map_append, List.map_singleton, List.getD_eq_getElem?_getD, List.getElem?_map, List.getElem?_eq_getElem hi]
  rfl

/-- What Path leaves. -/
def PathPost (l : List Task) (w : World) (e : Ending) (w' : World) : Prop :=
  Below w.heap.size w w' ∧ (rightR l = false ∧ e = .returned (.tuple #[.int .i64 0, .slice none 0 0, .int .i64 1]) ∨
    rightR l = true ∧ ∃ L y v, Covers l [l.length] L y ∧ e = .returned (.tuple #[.int .i64 L, v, .int .i64 0]) ∧ w'.ownsRow w.heap.size 9 1 v y.length ((nmsAt l y).map Value.string))

end Go.Proofs.YtfcfphamecbcgaaGreat

/- The reference for layer 44. -/
namespace Go.Proofs.YtfcfphamecbcgaaGreat
open Go.RowKit Go.Shelf

/-! ### The longest chain that begins with a task -/
theorem Chain.cons_iff {l : List Task} {i j : Nat} {z : List Nat} : Chain l (i :: j :: z) ↔ edge l i j ∧ Chain l (j :: z) := by
  constructor
  · intro h
    refine ⟨h.2 0 (by simp), fun k hk => h.1 k (List.mem_cons_of_mem _ hk), fun k hk => ?_⟩
    have := h.2 (k + 1) (by simp only [List.length_cons] at hk ⊢; omega)
    simpa using this
  · rintro ⟨he, h⟩
    refine ⟨fun k hk => ?_, fun k hk => ?_⟩
    · rw [List.mem_cons] at hk
      rcases hk with rfl | hk
      · exact he.1
      · exact h.1 k hk
    · cases k with
      | zero => exact he
      | succ k =>
        have := h.2 k (by simp only [List.length_cons] at hk ⊢; omega)
        simpa using this
theorem sumAt_cons (l : List Task) (i : Nat) (z : List Nat) : sumAt l (i :: z) = lenAt l i + sumAt l z := by simp [sumAt]

/-- n is the greatest sum of a chain that begins with task i. -/
structure IsFrom (l : List Task) (i : Nat) (n : Int) : Prop where
  has : ∃ z, Chain l (i :: z) ∧ sumAt l (i :: z) = n
  most : ∀ z, Chain l (i :: z) → sumAt l (i :: z) ≤ n
theorem IsFrom.uniq {l : List Task} {i : Nat} {n m : Int} (h : IsFrom l i n) (k : IsFrom l i m) : n = m := by
  obtain ⟨z, hz, e⟩ := h.has
  obtain ⟨z', hz', e'⟩ := k.has
  have h1 := h.most z' hz'
  have h2 := k.most z hz
  omega
theorem IsFrom.bd {l : List Task} (hR : RightT l) {i : Nat} {n : Int} (h : IsFrom l i n) : 0 ≤ n ∧ n ≤ 80000 := by
  obtain ⟨z, hz, e⟩ := h.has
  have h1 := sumAt_bd hR (i :: z)
  have h2 := hz.short hR
  have h3 := hR.len
  omega
/-- The greatest among the tasks ahead of k that wait for task i. -/
structure MostTo (l : List Task) (i k : Nat) (n : Int) : Prop where
  zero : 0 ≤ n
  most : ∀ j, j < k → edge l i j → ∀ m, IsFrom l j m → m ≤ n
  has : n = 0 ∨ ∃ j, j < k ∧ edge l i j ∧ IsFrom l j n
theorem MostTo.start (l : List Task) (i : Nat) : MostTo l i 0 0 := ⟨Int.le_refl _, fun j h => absurd h (Nat.not_lt_zero j), .inl rfl⟩
theorem MostTo.no {l : List Task} {i k : Nat} {n : Int} (h : MostTo l i k n) (hno : ¬ edge l i k) : MostTo l i (k + 1) n := by
  refine ⟨h.zero, fun j hj he m hm => ?_, ?_⟩
  · by_cases e : j = k
    · subst e; exact absurd he hno
    · exact h.most j (by omega) he m hm
  · rcases h.has with h | ⟨j, h1, h2⟩
    · exact .inl h
    · exact .inr ⟨j, by omega, h2⟩
theorem MostTo.yes {l : List Task} {i k : Nat} {n m : Int} (h : MostTo l i k n) (he : edge l i k) (hm : IsFrom l k m) : MostTo l i (k + 1) (if n < m then m else n) := by
  by_cases hlt : n < m
  · rw [if_pos hlt]
    refine ⟨by have := h.zero; omega, fun j hj he' m' hm' => ?_, .inr ⟨k, by omega, he, hm⟩⟩
    by_cases e : j = k
    · subst e; have := hm.uniq hm'; omega
    · have := h.most j (by omega) he' m' hm'; omega
  · rw [if_neg hlt]
    refine ⟨h.zero, fun j hj he' m' hm' => ?_, ?_⟩
    · by_cases e : j = k
      · subst e; have := hm.uniq hm'; omega
      · exact h.most j (by omega) he' m' hm'
    · rcases h.has with h | ⟨j, h1, h2⟩
      · exact .inl h
      · exact .inr ⟨j, by omega, h2⟩
/-- Every task has such a number. -/
theorem isFrom_of_most {l : List Task} {i : Nat} (hi : i < l.length) {n : Int} (h : MostTo l i l.length n) (hex : ∀ j, edge l i j → ∃ m, IsFrom l j m) : IsFrom l i (l[i].len + n) := by
  refine ⟨?_, fun z hz => ?_⟩
  · rcases h.has with rfl | ⟨j, _, he, hj⟩
    · exact ⟨[], Chain.one hi, by rw [sumAt_cons, lenAt_eq hi, sumAt_nil]⟩
    · obtain ⟨z, hz, e⟩ := hj.has
      exact ⟨j :: z, Chain.cons_iff.2 ⟨he, hz⟩, by rw [sumAt_cons, lenAt_eq hi, e]⟩
  · rw [sumAt_cons, lenAt_eq hi]
    cases z with
    | nil => rw [sumAt_nil]; have := h.zero; omega
    | cons j z =>
      obtain ⟨he, hz'⟩ := Chain.cons_iff.1 hz
      obtain ⟨m, hm⟩ := hex j he
      have h1 := hm.most z hz'
      have h2 := h.most j he.2.1 he m hm
      omega
theorem exists_most {l : List Task} {i : Nat} (hex : ∀ j, edge l i j → ∃ m, IsFrom l j m) : ∀ k, ∃ n, MostTo l i k n
  | 0 => ⟨0, MostTo.start l i⟩
  | k + 1 => by
    obtain ⟨n, hn⟩ := exists_most hex k
    by_cases he : edge l i k
    · obtain ⟨m, hm⟩ := hex k he
      exact ⟨_, hn.yes he hm⟩
    · exact ⟨n, hn.no he⟩
theorem exists_from {l : List Task} (hR : RightT l) : ∀ (f i : Nat), i < l.length → (∀ z, Chain l (i :: z) → (i :: z).length ≤ f) → ∃ n, IsFrom l i n
  | 0, i, hi, h => by have := h [] (Chain.one hi); simp at this
  | f + 1, i, hi, h => by
    have hex : ∀ j, edge l i j → ∃ m, IsFrom l j m := fun j he => exists_from hR f j he.2.1 fun z hz => by
      have := h (j :: z) (Chain.cons_iff.2 ⟨he, hz⟩)
      simpa using this
    obtain ⟨n, hn⟩ := exists_most hex l.length
    exact ⟨_, isFrom_of_most hi hn hex⟩

end Go.Proofs.YtfcfphamecbcgaaGreat

/- The greatest length of a chain, and the greedy choice of the least longest chain. No program in sight. -/
namespace Go.Proofs.YtfcfphamecbcgaaGreat

theorem lenAt_pos {l : List Task} (hR : RightT l) {i : Nat} (hi : i < l.length) : 1 ≤ lenAt l i := by
  rw [lenAt_eq hi]
  exact (fieldB_len (hR.field i hi)).1
theorem sumAt_append (l : List Task) (x y : List Nat) : sumAt l (x ++ y) = sumAt l x + sumAt l y := by simp [sumAt]

/-- The greatest of the chains that begin below k. -/
structure MostUp (l : List Task) (k : Nat) (n : Int) : Prop where
  zero : 0 ≤ n
  most : ∀ j, j < k → ∀ m, IsFrom l j m → m ≤ n
  has : n = 0 ∨ ∃ j, j < k ∧ IsFrom l j n
theorem MostUp.start (l : List Task) : MostUp l 0 0 := ⟨Int.le_refl _, fun j h => absurd h (Nat.not_lt_zero j), .inl rfl⟩
theorem MostUp.next {l : List Task} {k : Nat} {n m : Int} (h : MostUp l k n) (hm : IsFrom l k m) : MostUp l (k + 1) (if n < m then m else n) := by
  have hz := h.zero
  by_cases hlt : n < m
  · rw [if_pos hlt]
    refine ⟨by omega, fun j hj m' hm' => ?_, .inr ⟨k, by omega, hm⟩⟩
    by_cases e : j = k
    · subst e; have := hm.uniq hm'; omega
    · have := h.most j (by omega) m' hm'; omega
  · rw [if_neg hlt]
    refine ⟨hz, fun j hj m' hm' => ?_, ?_⟩
    · by_cases e : j = k
      · subst e; have := hm.uniq hm'; omega
      · exact h.most j (by omega) m' hm'
    · rcases h.has with h | ⟨j, h1, h2⟩
      · exact .inl h
      · exact .inr ⟨j, by omega, h2⟩
theorem from_ex {l : List Task} (hR : RightT l) {i : Nat} (hi : i < l.length) : ∃ n, IsFrom l i n := exists_from hR l.length i hi fun _ hz => hz.short hR
theorem MostUp.all {l : List Task} (hR : RightT l) {n : Int} (h : MostUp l l.length n) (z : List Nat) (hz : Chain l z) : sumAt l z ≤ n := by
  cases z with
  | nil => rw [sumAt_nil]; exact h.zero
  | cons i z =>
    have hi := hz.1 i (by simp)
    obtain ⟨m, hm⟩ := from_ex hR hi
    have h1 := hm.most z hz
    have h2 := h.most i hi m hm
    omega

theorem lex_ext : ∀ (p z q : List Nat), lex p z → ¬ p <+: z → lex (p ++ q) z
  | [], z, q, _, h => absurd (List.nil_prefix) h
  | a :: p, [], q, h, _ => absurd h (lex_nil_iff _)
  | a :: p, b :: z, q, h, hp => by
    rcases h with h | ⟨rfl, h⟩
    · exact .inl h
    · exact .inr ⟨rfl, lex_ext p z q h fun hh => hp (by rw [List.cons_prefix_cons]; exact ⟨rfl, hh⟩)⟩
theorem lex_pref : ∀ (p q z : List Nat), lex q z → lex (p ++ q) (p ++ z)
  | [], _, _, h => h
  | _ :: p, q, z, h => .inr ⟨rfl, lex_pref p q z h⟩

/-- Task k may come next. -/
def nextOK (l : List Task) (p : List Nat) (k : Nat) : Prop := ∀ hp : p ≠ [], edge l (p.getLast hp) k
theorem chain_app {l : List Task} {k : Nat} : ∀ {p z : List Nat}, Chain l p → Chain l (k :: z) → nextOK l p k → Chain l (p ++ k :: z)
  | [], z, _, h, _ => h
  | [_], _, _, h, hn => Chain.cons_iff.2 ⟨hn (by simp), h⟩
  | a :: b :: p, z, hp, h, hn => by
    obtain ⟨h1, h2⟩ := Chain.cons_iff.1 hp
    exact Chain.cons_iff.2 ⟨h1, chain_app (p := b :: p) h2 h fun hq => by have := hn (by simp); rwa [List.getLast_cons hq] at this⟩
theorem chain_back {l : List Task} : ∀ {p z : List Nat}, Chain l (p ++ z) → Chain l z
  | [], _, h => h
  | [_], [], _ => Chain.nil l
  | [_], _ :: _, h => (Chain.cons_iff.1 h).2
  | _ :: b :: p, _, h => chain_back (p := b :: p) (Chain.cons_iff.1 h).2
theorem chain_next {l : List Task} {p z : List Nat} {k : Nat} (h : Chain l (p ++ k :: z)) : nextOK l p k := fun hp => by
  have h' : Chain l ((p ++ [k]) ++ z) := by simpa using h
  exact h'.front.last_edge hp

/-- The list p, of which r is missing to the greatest sum M. -/
structure Greedy (l : List Task) (M : Int) (p : List Nat) (r : Int) : Prop where
  chain : Chain l p
  sum : sumAt l p + r = M
  left : 0 ≤ r
  most : ∀ z, Chain l z → sumAt l z ≤ M
  more : 0 < r → ∃ k z, Chain l (p ++ k :: z) ∧ sumAt l (k :: z) = r
  least : ∀ z, Chain l z → sumAt l z = M → p <+: z ∨ lex p z
theorem Greedy.start {l : List Task} (hR : RightT l) {M : Int} (h : MostUp l l.length M) : Greedy l M [] M := by
  refine ⟨Chain.nil l, by simp [sumAt_nil], h.zero, h.all hR, fun h0 => ?_, fun z _ _ => .inl List.nil_prefix⟩
  rcases h.has with h | ⟨j, _, hj⟩
  · omega
  · obtain ⟨z, hz, e⟩ := hj.has
    exact ⟨j, z, hz, e⟩
theorem Greedy.isFrom {l : List Task} {M r : Int} {p z : List Nat} {k : Nat} (h : Greedy l M p r) (hz : Chain l (p ++ k :: z)) (hs : sumAt l (k :: z) = r) : IsFrom l k r := by
  refine ⟨⟨z, chain_back hz, hs⟩, fun z' hz' => ?_⟩
  have := h.most _ (chain_app h.chain hz' (chain_next hz))
  rw [sumAt_append] at this
  have := h.sum
  omega
/-- There is a task that may come next. -/
theorem Greedy.wit {l : List Task} {M r : Int} {p : List Nat} (h : Greedy l M p r) (h0 : 0 < r) : ∃ k, k < l.length ∧ nextOK l p k ∧ IsFrom l k r := by
  obtain ⟨k, z, hz, hs⟩ := h.more h0
  exact ⟨k, hz.1 k (by simp), chain_next hz, h.isFrom hz hs⟩
/-- The least one is taken. -/
theorem Greedy.take {l : List Task} (hR : RightT l) {M r : Int} {p : List Nat} {k : Nat} (h : Greedy l M p r) (h0 : 0 < r) (hk : k < l.length) (hn : nextOK l p k) (hf : IsFrom l k r)
    (hno : ∀ j, j < k → nextOK l p j → ¬ IsFrom l j r) : Greedy l M (p ++ [k]) (r - lenAt l k) := by
  obtain ⟨z, hz, hs⟩ := hf.has
  have hpz := chain_app h.chain hz hn
  have hs' := hs
  rw [sumAt_cons] at hs'
  have hz0 := (sumAt_bd hR z).1
  refine ⟨(show Chain l ((p ++ [k]) ++ z) by simpa using hpz).front, by rw [sumAt_snoc]; have := h.sum; omega, by omega, h.most, fun hpos => ?_, fun z' hz' hs2 => ?_⟩
  · cases z with
    | nil => rw [sumAt_nil] at hs'; omega
    | cons k2 z2 => exact ⟨k2, z2, by simpa using hpz, by omega⟩
  · by_cases hp : p <+: z'
    · obtain ⟨t, rfl⟩ := hp
      rw [sumAt_append] at hs2
      cases t with
      | nil => rw [sumAt_nil] at hs2; have := h.sum; omega
      | cons j t =>
        have hj := h.isFrom hz' (by have := h.sum; omega)
        have hjk : ¬ j < k := fun hlt => hno j hlt (chain_next hz') hj
        by_cases e : j = k
        · subst e; exact .inl ⟨t, by simp⟩
        · refine .inr (lex_pref p [k] (j :: t) (.inl (by omega)))
    · rcases h.least z' hz' hs2 with h' | h'
      · exact absurd h' hp
      · exact .inr (lex_ext p z' [k] h' hp)
theorem Greedy.done {l : List Task} {M r : Int} {p : List Nat} (h : Greedy l M p r) (h0 : ¬ 0 < r) : Covers l [l.length] M p := by
  have hr : r = 0 := by have := h.left; omega
  subst hr
  have hlow : lex p [l.length] := by
    cases p with
    | nil => trivial
    | cons a p => exact .inl (h.chain.1 a (by simp))
  refine ⟨h.chain, hlow, by have := h.sum; omega, fun z hz _ => h.most z hz, fun z hz _ hs => ?_⟩
  rcases h.least z hz hs with ⟨t, rfl⟩ | h'
  · cases t with
    | nil => left; simp
    | cons a t =>
      right
      have := lex_pref p [] (a :: t) trivial
      rwa [List.append_nil] at this
  · exact .inr h'

end Go.Proofs.YtfcfphamecbcgaaGreat

/- bounds.given. -/
namespace Go.Proofs.YtfcfphamecbcgaaGreat
open Go.RowKit Go.Shelf

/-- A task that does not fit. -/
def tooMuch (c p : Int) (t : Task) : Bool := decide (c < t.crew) || decide (p < t.pow)
/-- The error's number. -/
noncomputable def givenN (l : List Task) (c p : Int) : Int := if validB l c p then (if l.any (tooMuch c p) then 22 else 0) else 1

end Go.Proofs.YtfcfphamecbcgaaGreat

/- bounds.Work. -/
namespace Go.Proofs.YtfcfphamecbcgaaGreat
open Go.RowKit Go.Shelf

theorem fieldB_crew {t : Task} (h : fieldB t = true) : 0 ≤ t.crew ∧ t.crew ≤ 100 := by
  unfold fieldB betweenB at h
  simp only [Bool.and_eq_true, decide_eq_true_eq] at h
  exact h.1.2
theorem fieldB_pow {t : Task} (h : fieldB t = true) : 0 ≤ t.pow ∧ t.pow ≤ 100 := by
  unfold fieldB betweenB at h
  simp only [Bool.and_eq_true, decide_eq_true_eq] at h
  exact h.2

/-- The sum of a need times the length. -/
def needN (f : Task → Int) (l : List Task) : Int := (l.map fun t => f t * t.len).sum
def stepN (best s lim : Int) : Int := if 0 < s then (if best < (s + lim - 1) / lim then (s + lim - 1) / lim else best) else best
def workN (l : List Task) (c p : Int) : Int := stepN (stepN 0 (needN Task.crew l) c) (needN Task.pow l) p
theorem needN_take (f : Task → Int) (l : List Task) (j : Nat) (hj : j < l.length) : needN f (l.take (j + 1)) = needN f (l.take j) + f l[j] * l[j].len := by
  unfold needN
  rw [take_snoc l j hj, List.map_append, List.sum_append]
  simp
theorem needN_bd (f : Task → Int) : ∀ (l : List Task), (∀ t ∈ l, 0 ≤ f t * t.len ∧ f t * t.len ≤ 1000000) → 0 ≤ needN f l ∧ needN f l ≤ 1000000 * l.length
  | [], _ => by simp [needN]
  | t :: l, h => by
    have h1 := h t (by simp)
    have h2 := needN_bd f l fun t ht => h t (by simp [ht])
    have e : needN f (t :: l) = f t * t.len + needN f l := by simp [needN]
    rw [e, List.length_cons]
    omega
theorem mul_bd {a b : Int} (h1 : 0 ≤ a) (h2 : a ≤ 100) (h3 : 1 ≤ b) (h4 : b ≤ 10000) : 0 ≤ a * b ∧ a * b ≤ 1000000 := by
  refine ⟨Int.mul_nonneg h1 (by omega), ?_⟩
  have h5 : a * b ≤ 100 * b := Int.mul_le_mul_of_nonneg_right h2 (by omega)
  omega

/-- The limit, the function and its number in each of the two rounds. -/
structure WorkRow (l : List Task) (c p : Int) (k : Nat) (lim : Int) (K : Nat) (f : Task → Int) : Prop where
  enters : ∀ args w, (callFunc K args).run Tryz.prog w = .ok (.enter K args) w
  call : ∀ (t : Task) (w : World), Calls Tryz.prog K #[t.val] w fun e w' => e = .returned (.int .i64 (f t)) ∧ Below w.heap.size w w'
  bd : ∀ t ∈ l, 0 ≤ f t ∧ f t ≤ 100
  fit : ∀ t ∈ l, f t ≤ lim
  limbd : lim ≤ 1000
def workAt (l : List Task) (c p : Int) : Nat → Int
  | 0 => 0
  | 1 => stepN 0 (needN Task.crew l) c
  | _ => workN l c p
theorem givenN_zero {l : List Task} {c p : Int} (h : givenN l c p = 0) : RightT l ∧ c ≤ 1000 ∧ p ≤ 1000 ∧ 0 ≤ c ∧ 0 ≤ p ∧ ∀ t ∈ l, t.crew ≤ c ∧ t.pow ≤ p := by
  unfold givenN at h
  cases hv : validB l c p with
  | false => rw [hv] at h; simp at h
  | true =>
    rw [hv] at h
    cases ha : l.any (tooMuch c p) with
    | true => rw [ha] at h; simp at h
    | false =>
      unfold validB betweenB at hv
      simp only [Bool.and_eq_true, decide_eq_true_eq] at hv
      refine ⟨(right_iff l).1 hv.1.1, hv.1.2.2, hv.2.2, hv.1.2.1, hv.2.1, fun t ht => ?_⟩
      have := List.any_eq_false.1 ha t ht
      unfold tooMuch at this
      simp only [Bool.or_eq_true, decide_eq_true_eq, not_or] at this
      omega
/-- The sum is positive only if the limit is. -/
theorem lim_pos {l : List Task} {c p lim : Int} {k K : Nat} {f : Task → Int} (h : WorkRow l c p k lim K f) (_hR : RightT l) (hs : 0 < needN f l) : 1 ≤ lim := by
  rcases Int.lt_or_le lim 1 with hl | hl
  · exfalso
    have : ∀ l' : List Task, (∀ t ∈ l', t ∈ l) → needN f l' = 0 := fun l' => by
      induction l' with
      | nil => intro _; rfl
      | cons t l' ih =>
        intro h'
        have h1 := h.bd t (h' t (by simp))
        have h2 := h.fit t (h' t (by simp))
        have e : f t = 0 := by omega
        have ih := ih fun t ht => h' t (by simp [ht])
        have e2 : needN f (t :: l') = f t * t.len + needN f l' := by simp [needN]
        rw [e2, ih, e]
        simp
    have := this l fun t ht => ht
    omega
  · exact hl

end Go.Proofs.YtfcfphamecbcgaaGreat

/- The reference's Given, up and Work of layer 44. -/
namespace Go.Proofs.YtfcfphamecbcgaaGreat
open Go.RowKit Go.Shelf

/-- A quotient rounded up. -/
def upN (n b : Int) : Int := if n = 0 then 0 else (n + b - 1) / b
def max2 (a b : Int) : Int := if a < b then b else a

theorem upN_pos {n b : Int} (hn : 0 < n) (hb : 1 ≤ b) : 1 ≤ upN n b := by
  unfold upN
  rw [if_neg (by omega)]
  exact (Int.le_ediv_iff_mul_le (by omega)).2 (by omega)
theorem stepN_up {best s lim : Int} (hs : 0 ≤ s) (hb : 0 ≤ best) : stepN best s lim = max2 best (upN s lim) := by
  unfold stepN upN max2
  by_cases h : 0 < s
  · rw [if_pos h, if_neg (show ¬ s = 0 by omega)]
  · have : s = 0 := by omega
    subst this
    rw [if_neg (by omega), if_pos rfl, if_neg (by omega)]
theorem upN_nonneg {n b : Int} (hn : 0 ≤ n) (hb : 0 < n → 1 ≤ b) : 0 ≤ upN n b := by
  by_cases h : 0 < n
  · have := upN_pos h (hb h); omega
  · unfold upN
    rw [if_pos (by omega)]
    exact Int.le_refl _
theorem workN_up {l : List Task} {c p : Int} (hA : 0 ≤ needN Task.crew l) (hB : 0 ≤ needN Task.pow l) (hc : 0 < needN Task.crew l → 1 ≤ c) : workN l c p = max2 (upN (needN Task.crew l) c) (upN (needN Task.pow l) p) := by
  have h1 := upN_nonneg hA hc
  have e : stepN 0 (needN Task.crew l) c = upN (needN Task.crew l) c := by
    rw [stepN_up hA (Int.le_refl _)]
    unfold max2
    split <;> omega
  unfold workN
  rw [e, stepN_up hB h1]

theorem lim_of {f : Task → Int} {l : List Task} {c : Int} (hfb : ∀ t ∈ l, 0 ≤ f t) (hff : ∀ t ∈ l, f t ≤ c) (hs : 0 < needN f l) : 1 ≤ c := by
  rcases Int.lt_or_le c 1 with hl | hl
  · exfalso
    have : ∀ l' : List Task, (∀ t ∈ l', t ∈ l) → needN f l' = 0 := fun l' => by
      induction l' with
      | nil => intro _; rfl
      | cons t l' ih =>
        intro h'
        have h1 := hfb t (h' t (by simp))
        have h2 := hff t (h' t (by simp))
        have e : f t = 0 := by omega
        have ih := ih fun t ht => h' t (by simp [ht])
        have e2 : needN f (t :: l') = f t * t.len + needN f l' := by simp [needN]
        rw [e2, ih, e]
        simp
    have := this l fun t ht => ht
    omega
  · exact hl

/-- Given as the reference has it. -/
theorem givenN_no {l : List Task} {c p : Int} (h : validB l c p = true) : givenN l c p = if l.any (tooMuch c p) then 22 else 0 := by unfold givenN; rw [h]; rfl

end Go.Proofs.YtfcfphamecbcgaaGreat
