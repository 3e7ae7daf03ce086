/- Tasks among further tasks: chains and cliques stay. No program in sight. -/
import Derived.Test.YtcjejcbikgcnbaaRefBest
namespace Go.Proofs.Ytcjejcbikgcnbaa

/-- The tasks l stand, by their indices φ, among the tasks m. -/
structure Emb (l m : List Task) (φ : Nat → Nat) : Prop where
  lt : ∀ i, i < l.length → φ i < m.length
  inj : ∀ i k, i < l.length → k < l.length → φ i = φ k → i = k
  get : ∀ i (h : i < l.length), m[φ i]'(lt i h) = l[i]
section
variable {l m : List Task} {φ : Nat → Nat}
theorem Emb.edge (h : Emb l m φ) {i k : Nat} (he : edge l i k) : edge m (φ i) (φ k) := by
  obtain ⟨hi, hk, hm⟩ := he
  exact ⟨h.lt i hi, h.lt k hk, by rw [h.get i hi, h.get k hk]; exact hm⟩
theorem Emb.chain (h : Emb l m φ) : ∀ {x : List Nat}, Chain l x → Chain m (x.map φ)
  | [], _ => Chain.nil m
  | [i], hx => Chain.one (h.lt i (hx.1 i (by simp)))
  | i :: j :: x, hx => by
    obtain ⟨h1, h2⟩ := Chain.cons_iff.1 hx
    exact Chain.cons_iff.2 ⟨h.edge h1, h.chain (x := j :: x) h2⟩
theorem Emb.lenAt (h : Emb l m φ) {i : Nat} (hi : i < l.length) : lenAt m (φ i) = lenAt l i := by
  rw [lenAt_eq (h.lt i hi), lenAt_eq hi, h.get i hi]
theorem Emb.sum (h : Emb l m φ) : ∀ {x : List Nat}, (∀ i ∈ x, i < l.length) → sumAt m (x.map φ) = sumAt l x
  | [], _ => rfl
  | i :: x, hx => by
    rw [List.map_cons, sumAt_cons, sumAt_cons, h.lenAt (hx i (by simp)), h.sum fun j hj => hx j (by simp [hj])]
theorem Emb.reach (h : Emb l m φ) {i k : Nat} (hr : reach l i k) : reach m (φ i) (φ k) := by
  obtain ⟨z, hz⟩ := hr
  exact ⟨z.map φ, by simpa using h.chain hz⟩
theorem Emb.excl (h : Emb l m φ) {c p : Int} {i k : Nat} (he : excl l c p i k) : excl m c p (φ i) (φ k) := by
  obtain ⟨hi, hk, he⟩ := he
  refine ⟨h.lt i hi, h.lt k hk, ?_⟩
  rw [h.get i hi, h.get k hk]
  rcases he with he | he | he | he
  · exact .inl (h.reach he)
  · exact .inr (.inl (h.reach he))
  · exact .inr (.inr (.inl he))
  · exact .inr (.inr (.inr he))
end
theorem covers_all {l : List Task} {L : Int} {y z : List Nat} (h : Covers l [l.length] L y) (hz : Chain l z) : sumAt l z ≤ L :=
  h.most z hz ((lex_top z [] l.length hz.1).2 (.inr List.nil_prefix))
theorem Emb.covers {l m : List Task} {φ : Nat → Nat} (h : Emb l m φ) {L M : Int} {y z : List Nat} (hl : Covers l [l.length] L y) (hm : Covers m [m.length] M z) : L ≤ M := by
  have := covers_all hm (h.chain hl.chain)
  rw [h.sum hl.chain.1, hl.sum] at this
  exact this

/-! ### Cliques as lists -/
def bitsOf : List Nat → Nat
  | [] => 0
  | i :: z => (2 ^ i) ||| bitsOf z
theorem bitsOf_test (z : List Nat) (i : Nat) : (bitsOf z).testBit i = decide (i ∈ z) := by
  induction z with
  | nil => simp [bitsOf]
  | cons j z ih =>
    rw [bitsOf, Nat.testBit_or, ih, Nat.testBit_two_pow]
    by_cases e : j = i
    · subst e; simp
    · have e' : ¬ i = j := fun h => e h.symm
      simp [e, e']
theorem bitsOf_lt (z : List Nat) (n : Nat) (h : ∀ i ∈ z, i < n) : bitsOf z < 2 ^ n := by
  induction z with
  | nil => exact Nat.two_pow_pos n
  | cons j z ih => exact Nat.or_lt_two_pow (Nat.pow_lt_pow_right (by omega) (h j (by simp))) (ih fun i hi => h i (by simp [hi]))
theorem memb_perm {z : List Nat} {n : Nat} (hn : z.Nodup) (h : ∀ i ∈ z, i < n) : (memb (bitsOf z) n).Perm z := by
  refine (List.perm_ext_iff_of_nodup ?_ hn).2 fun i => ?_
  · exact List.nodup_range.sublist List.filter_sublist
  · rw [mem_memb, bitsOf_test, decide_eq_true_iff]
    exact ⟨fun h => h.2, fun hi => ⟨h i hi, hi⟩⟩
theorem sumAt_perm {l : List Task} {x y : List Nat} (h : x.Perm y) : sumAt l x = sumAt l y := by
  induction h with
  | nil => rfl
  | cons i _ ih => rw [sumAt_cons, sumAt_cons, ih]
  | swap i j z => rw [sumAt_cons, sumAt_cons, sumAt_cons, sumAt_cons]; omega
  | trans _ _ ih1 ih2 => rw [ih1, ih2]
theorem nodup_memb (s n : Nat) : (memb s n).Nodup := List.nodup_range.sublist List.filter_sublist
/-- A list of tasks that exclude one another. -/
def Apart (l : List Task) (c p : Int) (z : List Nat) : Prop := ∀ i ∈ z, ∀ k ∈ z, i ≠ k → excl l c p i k
theorem heavy_all {l : List Task} {c p L : Int} {s : Nat} (h : Heavy l c p (2 ^ l.length) L s) {z : List Nat} (hn : z.Nodup) (hlt : ∀ i ∈ z, i < l.length) (hz : Apart l c p z) : sumAt l z ≤ L := by
  have := h.most (bitsOf z) (bitsOf_lt z _ hlt) fun i k hi hk hbi hbk => by
    rw [bitsOf_test, decide_eq_true_iff] at hbi hbk
    exact hz i hbi k hbk (by omega)
  rw [sumAt_perm (memb_perm hn hlt)] at this
  exact this
theorem heavy_apart {l : List Task} {c p L : Int} {S s : Nat} (h : Heavy l c p S L s) : Apart l c p (memb s l.length) := by
  intro i hi k hk hne
  obtain ⟨h1, h2⟩ := mem_memb.1 hi
  obtain ⟨h3, h4⟩ := mem_memb.1 hk
  rcases Nat.lt_or_gt_of_ne hne with hlt | hlt
  · exact excl_symm (h.clique k i h3 hlt h4 h2)
  · exact h.clique i k h1 hlt h2 h4
theorem Emb.heavy {l m : List Task} {φ : Nat → Nat} (h : Emb l m φ) {c p L M : Int} {s t : Nat} (hl : Heavy l c p (2 ^ l.length) L s) (hm : Heavy m c p (2 ^ m.length) M t) : L ≤ M := by
  have hlt : ∀ i ∈ memb s l.length, i < l.length := fun i hi => (mem_memb.1 hi).1
  have := heavy_all hm (z := (memb s l.length).map φ) (by
    rw [List.Nodup, List.pairwise_map]
    refine List.Pairwise.imp_of_mem ?_ (nodup_memb s l.length)
    intro a b ha hb hne e
    exact hne (h.inj a b (hlt a ha) (hlt b hb) e)) (by
    intro i hi
    obtain ⟨k, hk, rfl⟩ := List.mem_map.1 hi
    exact h.lt k (hlt k hk)) (by
    intro i hi k hk hne
    obtain ⟨a, ha, rfl⟩ := List.mem_map.1 hi
    obtain ⟨b, hb, rfl⟩ := List.mem_map.1 hk
    exact h.excl (heavy_apart hl a ha b hb fun e => hne (by rw [e])))
  rw [h.sum hlt, hl.sum] at this
  exact this
/-- More crew, or power: fewer tasks exclude one another. -/
theorem excl_less {l : List Task} {c p c' p' : Int} (hc : c ≤ c') (hp : p ≤ p') {i k : Nat} (h : excl l c' p' i k) : excl l c p i k := by
  obtain ⟨hi, hk, h⟩ := h
  refine ⟨hi, hk, ?_⟩
  rcases h with h | h | h | h
  · exact .inl h
  · exact .inr (.inl h)
  · exact .inr (.inr (.inl (by omega)))
  · exact .inr (.inr (.inr (by omega)))
theorem heavy_less {l : List Task} {c p c' p' L M : Int} {s t : Nat} (hc : c ≤ c') (hp : p ≤ p') (hl : Heavy l c p (2 ^ l.length) L s) (hm : Heavy l c' p' (2 ^ l.length) M t) : M ≤ L := by
  have := heavy_all hl (nodup_memb t l.length) (fun i hi => (mem_memb.1 hi).1) (fun i hi k hk hne => excl_less hc hp (heavy_apart hm i hi k hk hne))
  rw [hm.sum] at this
  exact this

/-! ### The work -/
theorem up_less {n b b' : Int} (hn : 0 ≤ n) (hb : 0 < n → 1 ≤ b) (h : b ≤ b') : upN n b' ≤ upN n b := by
  unfold upN
  by_cases h0 : n = 0
  · rw [if_pos h0, if_pos h0]; exact Int.le_refl _
  · rw [if_neg h0, if_neg h0]
    have h1 := hb (by omega)
    have hq1 : 1 ≤ (n + b - 1) / b := (Int.le_ediv_iff_mul_le (by omega)).2 (by omega)
    have hq : n + b - 1 < ((n + b - 1) / b + 1) * b := Int.lt_ediv_add_one_mul_self _ (by omega)
    generalize (n + b - 1) / b = q at *
    have hnq : n ≤ q * b := by rw [Int.add_mul] at hq; omega
    have hqb : q * b ≤ q * b' := Int.mul_le_mul_of_nonneg_left h (by omega)
    have : (n + b' - 1) / b' < q + 1 := Int.ediv_lt_of_lt_mul (by omega) (by rw [Int.add_mul]; omega)
    omega
theorem up_more {n n' b : Int} (hn : 0 ≤ n) (h : n ≤ n') (hb : 0 < n' → 1 ≤ b) : upN n b ≤ upN n' b := by
  unfold upN
  by_cases h0 : n' = 0
  · have : n = 0 := by omega
    rw [if_pos this, if_pos h0]; exact Int.le_refl _
  · have h1 := hb (by omega)
    rw [if_neg h0]
    by_cases h2 : n = 0
    · rw [if_pos h2]
      exact Int.ediv_nonneg (by omega) (by omega)
    · rw [if_neg h2]
      exact Int.ediv_le_ediv (by omega) (by omega)
/-- What right tasks with limits give on their needs. -/
theorem given_facts {l : List Task} {c p : Int} (hg : givenN l c p = 0) : (0 ≤ needN Task.crew l ∧ (0 < needN Task.crew l → 1 ≤ c)) ∧ (0 ≤ needN Task.pow l ∧ (0 < needN Task.pow l → 1 ≤ p)) := by
  obtain ⟨hR, -, -, -, -, hfit⟩ := givenN_zero hg
  refine ⟨⟨(needN_bd _ l fun t ht => ?_).1, lim_of (fun t ht => (fieldB_crew (field_mem hR ht)).1) fun t ht => (hfit t ht).1⟩, ⟨(needN_bd _ l fun t ht => ?_).1, lim_of (fun t ht => (fieldB_pow (field_mem hR ht)).1) fun t ht => (hfit t ht).2⟩⟩
  · have hx := field_mem hR ht
    have h1 := fieldB_crew hx
    have h2 := fieldB_len hx
    exact mul_bd h1.1 h1.2 h2.1 h2.2
  · have hx := field_mem hR ht
    have h1 := fieldB_pow hx
    have h2 := fieldB_len hx
    exact mul_bd h1.1 h1.2 h2.1 h2.2
theorem max2_mono {a b a' b' : Int} (h : a ≤ a') (h' : b ≤ b') : max2 a b ≤ max2 a' b' := by
  unfold max2
  repeat' split
  all_goals omega
theorem max3_mono {a b c a' b' c' : Int} (h : a ≤ a') (h' : b ≤ b') (h'' : c ≤ c') : max3 a b c ≤ max3 a' b' c' := by
  unfold max3
  repeat' split
  all_goals omega
theorem work_less {l : List Task} {c p c' p' : Int} (hg : givenN l c p = 0) (hg' : givenN l c' p' = 0) (hc : c ≤ c') (hp : p ≤ p') : workN l c' p' ≤ workN l c p := by
  obtain ⟨⟨a1, a2⟩, ⟨b1, b2⟩⟩ := given_facts hg
  obtain ⟨⟨-, a3⟩, ⟨-, b3⟩⟩ := given_facts hg'
  rw [workN_up a1 b1 a2, workN_up a1 b1 a3]
  exact max2_mono (up_less a1 a2 hc) (up_less b1 b2 hp)
theorem work_more {l m : List Task} {c p : Int} (hg : givenN l c p = 0) (hg' : givenN m c p = 0) (h1 : needN Task.crew l ≤ needN Task.crew m) (h2 : needN Task.pow l ≤ needN Task.pow m) : workN l c p ≤ workN m c p := by
  obtain ⟨⟨a1, a2⟩, ⟨b1, b2⟩⟩ := given_facts hg
  obtain ⟨⟨a3, a4⟩, ⟨b3, b4⟩⟩ := given_facts hg'
  rw [workN_up a1 b1 a2, workN_up a3 b3 a4]
  exact max2_mono (up_more a1 h1 a4) (up_more b1 h2 b4)

/-! ### The tasks the other way round; a further task -/
theorem emb_rev (l : List Task) : Emb l l.reverse (fun i => l.length - 1 - i) :=
  ⟨fun i hi => by rw [List.length_reverse]; omega, fun i k hi hk e => by omega, fun i hi => by
    rw [List.getElem_reverse]
    congr 1
    omega⟩
theorem emb_rev' (l : List Task) : Emb l.reverse l (fun i => l.length - 1 - i) :=
  ⟨fun i hi => by rw [List.length_reverse] at hi; omega, fun i k hi hk e => by rw [List.length_reverse] at hi hk; omega, fun i hi => by rw [List.getElem_reverse]⟩
theorem emb_more (l : List Task) (t : Task) : Emb l (l ++ [t]) id :=
  ⟨fun i hi => by simp; omega, fun i k _ _ e => e, fun i hi => by simp [List.getElem_append_left hi]⟩
theorem need_rev (f : Task → Int) (l : List Task) : needN f l.reverse = needN f l := by
  unfold needN
  rw [List.map_reverse, List.sum_reverse]
theorem need_more (f : Task → Int) (l : List Task) (t : Task) : needN f (l ++ [t]) = needN f l + f t * t.len := by
  unfold needN
  rw [List.map_append, List.sum_append]
  simp
theorem names_rev (l : List Task) : names l.reverse = (names l).reverse := by unfold names; rw [List.map_reverse]
theorem right_rev {l : List Task} (hR : RightT l) : RightT l.reverse := by
  have hd : distinct l.reverse = true := by
    have := hR.dist
    unfold distinct at *
    rw [names_rev]
    have h := of_decide_eq_true this
    refine decide_eq_true ?_
    rw [List.Nodup, List.pairwise_reverse]
    exact h.imp fun hne e => hne e.symm
  refine { len := by rw [List.length_reverse]; exact hR.len, field := fun i hi => ?_, dist := hd, bef := (befOK_iff _).2 fun t ht => ?_, acyc := ?_ }
  · rw [List.getElem_reverse]
    exact hR.field _ _
  · obtain ⟨h1, h2⟩ := (befOK_iff l).1 hR.bef t (List.mem_reverse.1 ht)
    exact ⟨h1, fun s hs => ⟨by rw [names_rev, List.mem_reverse]; exact (h2 s hs).1, (h2 s hs).2⟩⟩
  · obtain ⟨rank, hr⟩ := hR.acyc
    refine ⟨fun k => rank (l.length - 1 - k), fun k hk j hj => ?_⟩
    have hk' : k < l.length := by rw [List.length_reverse] at hk; exact hk
    rw [getD_rows hk] at hj
    unfold pls at hj
    rw [List.mem_map] at hj
    obtain ⟨s, hs, rfl⟩ := hj
    have hgood := ((befOK_iff l).1 hR.bef _ (List.mem_reverse.1 (List.getElem_mem hk))).2 s hs
    obtain ⟨i, hi, e1, e2⟩ := pl_mem hgood.1
    have hrev : pl l.reverse s = ((l.length - 1 - i : Nat) : Int) := by
      have h := pl_name hd (i := l.length - 1 - i) (by rw [List.length_reverse]; omega)
      rw [List.getElem_reverse] at h
      have e3 : l[l.length - 1 - (l.length - 1 - i)]'(by omega) = l[i] := by congr 1; omega
      rw [e3, e2] at h
      exact h
    rw [hrev, Int.toNat_natCast]
    have he : edge l i (l.length - 1 - k) := ⟨hi, by omega, by
      rw [e2]
      rw [List.getElem_reverse] at hs
      exact hs⟩
    have := hr (l.length - 1 - k) (by omega) _ (edge_row hR.dist he)
    rw [Int.toNat_natCast] at this
    show rank (l.length - 1 - (l.length - 1 - i)) < rank (l.length - 1 - k)
    rw [show l.length - 1 - (l.length - 1 - i) = i by omega]
    exact this
theorem given_rev {l : List Task} {c p : Int} (hg : givenN l c p = 0) : givenN l.reverse c p = 0 := by
  have hR := (givenN_zero hg).1
  have h := (right_iff _).2 (right_rev hR)
  have h0 := (right_iff _).2 hR
  unfold givenN at *
  have e : validB l.reverse c p = validB l c p := by unfold validB; rw [h, h0]
  rw [e, List.any_reverse]
  exact hg

end Go.Proofs.Ytcjejcbikgcnbaa
