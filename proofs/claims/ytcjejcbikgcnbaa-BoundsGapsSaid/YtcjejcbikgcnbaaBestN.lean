/- The bounds as functions; Best, Path and Clique once more. -/
import Derived.Test.YtcjejcbikgcnbaaRefBest
namespace Go.Proofs.Ytcjejcbikgcnbaa
open Go.RowKit Go.Shelf

noncomputable def pathN (l : List Task) : Int := Classical.epsilon fun L => ∃ y, Covers l [l.length] L y
noncomputable def cliqueN (l : List Task) (c p : Int) : Int := Classical.epsilon fun L => ∃ s, Heavy l c p (2 ^ l.length) L s
noncomputable def bestN (l : List Task) (c p : Int) : Int := max3 (workN l c p) (pathN l) (cliqueN l c p)
theorem pathN_eq {l : List Task} {L : Int} {y : List Nat} (h : Covers l [l.length] L y) : pathN l = L := by
  obtain ⟨y', h'⟩ := Classical.epsilon_spec (p := fun L => ∃ y, Covers l [l.length] L y) ⟨L, y, h⟩
  exact (h'.uniq h).1
theorem cliqueN_eq {l : List Task} {c p L : Int} {s : Nat} (h : Heavy l c p (2 ^ l.length) L s) : cliqueN l c p = L := by
  obtain ⟨s', h'⟩ := Classical.epsilon_spec (p := fun L => ∃ s, Heavy l c p (2 ^ l.length) L s) ⟨L, s, h⟩
  exact (h'.uniq h).1

theorem bestCall (v : Value) (l : List Task) (c p : Int) (w : World) (hl : TasksAt w w.heap.size v l) :
    Calls Try.prog 25 #[v, .int .i64 c, .int .i64 p] w fun e w' => e = .returned (.tuple #[.int .i64 (if givenN l c p = 0 then bestN l c p else 0), .int .i64 (givenN l c p)]) ∧ Below w.heap.size w w' :=
  (boundsBest v l c p w hl).mono fun e w' h => by
    obtain ⟨hb, ⟨hno, rfl⟩ | ⟨hz, L, K, y, s, hc, hh, rfl⟩⟩ := h
    · rw [if_neg hno]
      exact ⟨rfl, hb⟩
    · rw [if_pos hz, hz]
      unfold bestN
      rw [pathN_eq hc, cliqueN_eq hh]
      exact ⟨rfl, hb⟩
theorem up_bd {n b m : Int} (hn : 0 ≤ n) (hm : n ≤ m) (hb : 0 < n → 1 ≤ b) : 0 ≤ upN n b ∧ upN n b ≤ m := by
  unfold upN
  by_cases h : n = 0
  · rw [if_pos h]; omega
  · have h0 : 0 < n := by omega
    have h1 := hb h0
    rw [if_neg h]
    have h2 : 1 ≤ (n + b - 1) / b := (Int.le_ediv_iff_mul_le (by omega)).2 (by omega)
    have h3 : (n + b - 1) / b < n + 1 := Int.ediv_lt_of_lt_mul (by omega) (by
      have : n * 1 ≤ n * b := Int.mul_le_mul_of_nonneg_left h1 (by omega)
      rw [Int.add_mul]
      omega)
    omega
theorem need_bd {l : List Task} (hR : RightT l) (f : Task → Int) (hf : ∀ t, fieldB t = true → 0 ≤ f t ∧ f t ≤ 100) : 0 ≤ needN f l ∧ needN f l ≤ 8000000 := by
  have h := needN_bd f l fun t ht => by
    have hx := field_mem hR ht
    have h' := fieldB_len hx
    exact mul_bd (hf t hx).1 (hf t hx).2 h'.1 h'.2
  have := hR.len
  omega
theorem work_bd {l : List Task} {c p : Int} (hg : givenN l c p = 0) : 0 ≤ workN l c p ∧ workN l c p ≤ 8000000 := by
  obtain ⟨hR, -, -, -, -, hfit⟩ := givenN_zero hg
  have hA := need_bd hR Task.crew fun t h => fieldB_crew h
  have hB := need_bd hR Task.pow fun t h => fieldB_pow h
  have hc : 0 < needN Task.crew l → 1 ≤ c := lim_of (fun t ht => (fieldB_crew (field_mem hR ht)).1) fun t ht => (hfit t ht).1
  have hp : 0 < needN Task.pow l → 1 ≤ p := lim_of (fun t ht => (fieldB_pow (field_mem hR ht)).1) fun t ht => (hfit t ht).2
  rw [workN_up hA.1 hB.1 hc]
  have h1 := up_bd hA.1 hA.2 hc
  have h2 := up_bd hB.1 hB.2 hp
  unfold max2
  split <;> omega
theorem covers_bd {l : List Task} (hR : RightT l) {L : Int} {y : List Nat} (h : Covers l [l.length] L y) : 0 ≤ L ∧ L ≤ 80000 := by
  have h1 := sumAt_bd hR y
  have h2 := h.chain.short hR
  have h3 := hR.len
  have h4 := h.sum
  omega
theorem heavy_bd {l : List Task} (hR : RightT l) {c p L : Int} {S s : Nat} (h : Heavy l c p S L s) : 0 ≤ L ∧ L ≤ 80000 := by
  have h1 := sumAt_bd hR (memb s l.length)
  have h2 := memb_len s l.length
  have h3 := hR.len
  have h4 := h.sum
  omega
theorem bestYes (v : Value) (l : List Task) (c p : Int) (w : World) (hl : TasksAt w w.heap.size v l) (hg : givenN l c p = 0) :
    Calls Try.prog 25 #[v, .int .i64 c, .int .i64 p] w fun e w' => e = .returned (.tuple #[.int .i64 (bestN l c p), .int .i64 0]) ∧ (0 ≤ bestN l c p ∧ bestN l c p ≤ 8000000) ∧ Below w.heap.size w w' :=
  (boundsBest v l c p w hl).mono fun e w' h => by
    obtain ⟨hb, ⟨hno, rfl⟩ | ⟨hz, L, K, y, s, hc, hh, rfl⟩⟩ := h
    · exact absurd hg hno
    · have hR := (givenN_zero hg).1
      have h1 := work_bd hg
      have h2 := covers_bd hR hc
      have h3 := heavy_bd hR hh
      unfold bestN
      rw [pathN_eq hc, cliqueN_eq hh]
      refine ⟨rfl, ?_, hb⟩
      unfold max3
      repeat' split
      all_goals omega
theorem bestNo (v : Value) (l : List Task) (c p : Int) (w : World) (hl : TasksAt w w.heap.size v l) (hg : givenN l c p ≠ 0) :
    Calls Try.prog 25 #[v, .int .i64 c, .int .i64 p] w fun e w' => e = .returned (.tuple #[.int .i64 0, .int .i64 (givenN l c p)]) ∧ Below w.heap.size w w' := by
  have := bestCall v l c p w hl
  rw [if_neg hg] at this
  exact this
theorem refBestN (v : Value) (l : List Task) (c p : Int) (w : World) (hg : givenN l c p = 0) (hl : TasksAt w w.heap.size v l) :
    Calls Try.prog 29 #[v, .int .i64 c, .int .i64 p] w fun e w' => e = .returned (.int .i64 (bestN l c p)) ∧ (0 ≤ bestN l c p ∧ bestN l c p ≤ 8000000) ∧ Below w.heap.size w w' :=
  (refBest v l c p w hg hl).mono fun e w' h => by
    obtain ⟨hb, L, K, y, s, hc, hh, rfl⟩ := h
    have hR := (givenN_zero hg).1
    have h1 := work_bd hg
    have h2 := covers_bd hR hc
    have h3 := heavy_bd hR hh
    unfold bestN
    rw [pathN_eq hc, cliqueN_eq hh]
    refine ⟨rfl, ?_, hb⟩
    unfold max3
    repeat' split
    all_goals omega

end Go.Proofs.Ytcjejcbikgcnbaa
