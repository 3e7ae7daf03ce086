/- The reference for layer 44. -/
import Derived.Test.YtcjejcbikgcnbaaLex
import Derived.Test.YtcjejcbikgcnbaaPath
namespace Go.Proofs.Ytcjejcbikgcnbaa
open Go.RowKit Go.Shelf

set_option maxHeartbeats 400000 in
theorem rbefore (v : Value) (l : List Task) (i k : Nat) (w : World) (B : Nat) (hl : TasksAt w B v l) (hi : i < l.length) (hk : k < l.length) :
    Calls Try.prog 71 #[v, .int .i64 i, .int .i64 k] w fun e w' => e = .returned (.bool (decide (l[i].name ∈ l[k].bef))) ∧ ∃ n, w.drewN n = w' := by
  obtain ⟨A, c, rfl, hc1, hc2, hcell⟩ := hl.open_
  obtain ⟨b, off, rfl, hb, hcell⟩ := hcell i hi
  have hti := hcell i hi
  have htk := hcell k hk
  clear hcell
  obtain ⟨hd1, hd2, hs⟩ := hl.open_bef hk
  obtain ⟨hi0, -, -, -, -⟩ := hti
  obtain ⟨-, -, -, -, hk4⟩ := htk
  unfold maxLen at hc2 hd2
  clear hl
  generalize l[k].ba = A' at *
  generalize l[k].bc = c' at *
  generalize hL : l[k].bef = L at *
  generalize hN : l[i].name = nm at *
  clear hL hN
  go_enter Try.func71, Try.ntmps71
  go_wp2
  go_loopw [7] (fun x wr => ∃ j : Nat, j ≤ L.length ∧ x = .int .i64 j ∧ Hid (nm ∉ L.take j) ∧ ∃ n, wr = w.drewN n) (fun x _ => L.length - (intOf x).toNat)
  case atStart => exact ⟨0, Nat.zero_le _, rfl, by unfold Hid; simp, 0, rfl⟩
  case round =>
    obtain ⟨j, hj, rfl, Hnm, n, rfl⟩ := hrel
    by_cases hlt : j < L.length
    · obtain ⟨b', off', rfl, hb', hs⟩ := hs j hlt
      have hsj := hs j hlt
      clear hs
      by_cases hq : L[j] = nm
      · have ht : (L[j].toList == nm.toList) = true := by rw [str_beq]; simpa using hq
        have HQ := Lib.hid hq
        clear hq
        go_wp2
        go_quiet (fail)
        go_wp2
        go_ret
        exact ⟨by rw [← HQ.out]; simp, q2⟩
      · have ht : (L[j].toList == nm.toList) = false := by rw [str_beq]; simpa using hq
        go_wp2
        go_quiet (fail)
        go_wp2
        go_roundw
        case rel => exact ⟨j + 1, by omega, by go_num, notin_snoc hlt Hnm.out hq, _, rfl⟩
        case measure => simp [intOf]; omega
    · have hje : j = L.length := by omega
      subst hje
      go_wp2
      go_ret
      exact ⟨by have := Hnm.out; rw [List.take_length] at this; simpa using this, _, rfl⟩

/-! ### The longest chain that begins with a task -/
theorem Chain.cons_iff {l : List Task} {i j : Nat} {z : List Nat} : Chain l (i :: j :: z) ↔ edge l i j ∧ Chain l (j :: z) := by
  constructor
  · intro h
    refine ⟨h.2 0 (by simp), fun k hk => h.1 k (List.mem_cons_of_mem _ hk), fun k hk => ?_⟩
    have := h.2 (k + 1) (by simp only [List.length_cons] at hk ⊢; omega)
    simpa using this
  · rintro ⟨he, h⟩
    refine ⟨fun k hk => ?_, fun k hk => ?_⟩
    · rw [List.mem_cons] at hk
      rcases hk with rfl | hk
      · exact he.1
      · exact h.1 k hk
    · cases k with
      | zero => exact he
      | succ k =>
        have := h.2 k (by simp only [List.length_cons] at hk ⊢; omega)
        simpa using this
theorem sumAt_cons (l : List Task) (i : Nat) (z : List Nat) : sumAt l (i :: z) = lenAt l i + sumAt l z := by simp [sumAt]

/-- n is the greatest sum of a chain that begins with task i. -/
structure IsFrom (l : List Task) (i : Nat) (n : Int) : Prop where
  has : ∃ z, Chain l (i :: z) ∧ sumAt l (i :: z) = n
  most : ∀ z, Chain l (i :: z) → sumAt l (i :: z) ≤ n
theorem IsFrom.uniq {l : List Task} {i : Nat} {n m : Int} (h : IsFrom l i n) (k : IsFrom l i m) : n = m := by
  obtain ⟨z, hz, e⟩ := h.has
  obtain ⟨z', hz', e'⟩ := k.has
  have h1 := h.most z' hz'
  have h2 := k.most z hz
  omega
theorem IsFrom.bd {l : List Task} (hR : RightT l) {i : Nat} {n : Int} (h : IsFrom l i n) : 0 ≤ n ∧ n ≤ 80000 := by
  obtain ⟨z, hz, e⟩ := h.has
  have h1 := sumAt_bd hR (i :: z)
  have h2 := hz.short hR
  have h3 := hR.len
  omega
/-- The greatest among the tasks ahead of k that wait for task i. -/
structure MostTo (l : List Task) (i k : Nat) (n : Int) : Prop where
  zero : 0 ≤ n
  most : ∀ j, j < k → edge l i j → ∀ m, IsFrom l j m → m ≤ n
  has : n = 0 ∨ ∃ j, j < k ∧ edge l i j ∧ IsFrom l j n
theorem MostTo.start (l : List Task) (i : Nat) : MostTo l i 0 0 := ⟨Int.le_refl _, fun j h => absurd h (Nat.not_lt_zero j), .inl rfl⟩
theorem MostTo.no {l : List Task} {i k : Nat} {n : Int} (h : MostTo l i k n) (hno : ¬ edge l i k) : MostTo l i (k + 1) n := by
  refine ⟨h.zero, fun j hj he m hm => ?_, ?_⟩
  · by_cases e : j = k
    · subst e; exact absurd he hno
    · exact h.most j (by omega) he m hm
  · rcases h.has with h | ⟨j, h1, h2⟩
    · exact .inl h
    · exact .inr ⟨j, by omega, h2⟩
theorem MostTo.yes {l : List Task} {i k : Nat} {n m : Int} (h : MostTo l i k n) (he : edge l i k) (hm : IsFrom l k m) : MostTo l i (k + 1) (if n < m then m else n) := by
  by_cases hlt : n < m
  · rw [if_pos hlt]
    refine ⟨by have := h.zero; omega, fun j hj he' m' hm' => ?_, .inr ⟨k, by omega, he, hm⟩⟩
    by_cases e : j = k
    · subst e; have := hm.uniq hm'; omega
    · have := h.most j (by omega) he' m' hm'; omega
  · rw [if_neg hlt]
    refine ⟨h.zero, fun j hj he' m' hm' => ?_, ?_⟩
    · by_cases e : j = k
      · subst e; have := hm.uniq hm'; omega
      · exact h.most j (by omega) he' m' hm'
    · rcases h.has with h | ⟨j, h1, h2⟩
      · exact .inl h
      · exact .inr ⟨j, by omega, h2⟩
/-- Every task has such a number. -/
theorem isFrom_of_most {l : List Task} {i : Nat} (hi : i < l.length) {n : Int} (h : MostTo l i l.length n) (hex : ∀ j, edge l i j → ∃ m, IsFrom l j m) : IsFrom l i (l[i].len + n) := by
  refine ⟨?_, fun z hz => ?_⟩
  · rcases h.has with rfl | ⟨j, _, he, hj⟩
    · exact ⟨[], Chain.one hi, by rw [sumAt_cons, lenAt_eq hi, sumAt_nil]⟩
    · obtain ⟨z, hz, e⟩ := hj.has
      exact ⟨j :: z, Chain.cons_iff.2 ⟨he, hz⟩, by rw [sumAt_cons, lenAt_eq hi, e]⟩
  · rw [sumAt_cons, lenAt_eq hi]
    cases z with
    | nil => rw [sumAt_nil]; have := h.zero; omega
    | cons j z =>
      obtain ⟨he, hz'⟩ := Chain.cons_iff.1 hz
      obtain ⟨m, hm⟩ := hex j he
      have h1 := hm.most z hz'
      have h2 := h.most j he.2.1 he m hm
      omega
theorem exists_most {l : List Task} {i : Nat} (hex : ∀ j, edge l i j → ∃ m, IsFrom l j m) : ∀ k, ∃ n, MostTo l i k n
  | 0 => ⟨0, MostTo.start l i⟩
  | k + 1 => by
    obtain ⟨n, hn⟩ := exists_most hex k
    by_cases he : edge l i k
    · obtain ⟨m, hm⟩ := hex k he
      exact ⟨_, hn.yes he hm⟩
    · exact ⟨n, hn.no he⟩
theorem exists_from {l : List Task} (hR : RightT l) : ∀ (f i : Nat), i < l.length → (∀ z, Chain l (i :: z) → (i :: z).length ≤ f) → ∃ n, IsFrom l i n
  | 0, i, hi, h => by have := h [] (Chain.one hi); simp at this
  | f + 1, i, hi, h => by
    have hex : ∀ j, edge l i j → ∃ m, IsFrom l j m := fun j he => exists_from hR f j he.2.1 fun z hz => by
      have := h (j :: z) (Chain.cons_iff.2 ⟨he, hz⟩)
      simpa using this
    obtain ⟨n, hn⟩ := exists_most hex l.length
    exact ⟨_, isFrom_of_most hi hn hex⟩

set_option maxRecDepth 100000 in
set_option maxHeartbeats 1000000 in
theorem refFrom (v : Value) (l : List Task) (B : Nat) (hR : RightT l) : ∀ (f i : Nat) (w : World), i < l.length → (∀ z, Chain l (i :: z) → (i :: z).length ≤ f) → TasksAt w B v l →
    Calls Try.prog 70 #[v, .int .i64 i] w fun e w' => (∃ n, e = .returned (.int .i64 n) ∧ IsFrom l i n) ∧ ∃ q, w.drewN q = w' := by
  intro f
  induction f with
  | zero => intro i w hi h; have := h [] (Chain.one hi); simp at this
  | succ f ih =>
    intro i w hi hch hl
    have hex : ∀ j, edge l i j → ∃ m, IsFrom l j m := fun j he => exists_from hR f j he.2.1 fun z hz => by
      have := hch (j :: z) (Chain.cons_iff.2 ⟨he, hz⟩)
      simpa using this
    have Hex := Lib.hid hex
    have IH : Hid (∀ j, edge l i j → ∀ q, Calls Try.prog 70 #[v, .int .i64 j] (w.drewN q) fun e w' => (∃ n, e = .returned (.int .i64 n) ∧ IsFrom l j n) ∧ ∃ q', (w.drewN q).drewN q' = w') := fun j he q => ih j _ he.2.1 (fun z hz => by
      have := hch (j :: z) (Chain.cons_iff.2 ⟨he, hz⟩)
      simpa using this) (hl.drewN q)
    clear ih hex hch
    have HL := Lib.hid hl
    obtain ⟨A, c, rfl, hc1, hc2, hcell⟩ := hl.open_
    unfold maxLen at hc2
    clear hl
    obtain ⟨b, off, rfl, hb, hcell⟩ := hcell i hi
    obtain ⟨-, t1, -, -, -⟩ := hcell i hi
    clear hcell
    have hlen := fieldB_len (hR.field i hi)
    have h8 := hR.len
    obtain ⟨hlen1, hlen2⟩ := hlen
    go_enter Try.func70, Try.ntmps70
    go_wp2
    go_loopw [6, 5] (fun s m wr => ∃ (k : Nat) (n : Int), k ≤ l.length ∧ s = .int .i64 k ∧ m = .int .i64 n ∧ n ≤ 80000 ∧ Hid (MostTo l i k n) ∧ ∃ q, wr = w.drewN q) (fun s _ _ => l.length - (intOf s).toNat)
    case atStart => exact ⟨0, 0, Nat.zero_le _, rfl, rfl, by omega, MostTo.start l i, 0, rfl⟩
    case round =>
      obtain ⟨k, n, hk, rfl, rfl, hn, HM, q, rfl⟩ := hrel
      by_cases hkl : k < l.length
      · have hbf := rbefore _ l i k (w.drewN q) B (HL.out.drewN q) hi hkl
        by_cases hE : l[i].name ∈ l[k].bef
        · have he : edge l i k := ⟨hi, hkl, hE⟩
          have hcall := fun q => IH.out k he q
          rw [decide_eq_true hE] at hbf
          have He := Lib.hid he
          clear hE he
          go_wp2_with (first | (go_at_call 71; refine hbf.mono ?_; rintro e w' ⟨rfl, q1, rfl⟩) | (go_at_call 70; refine (hcall _).mono ?_; rintro e w' ⟨⟨m, rfl, hm⟩, q2, rfl⟩))
          · have hlt : n < m := by assumption
            have HY := HM.out.yes He.out hm
            rw [if_pos hlt] at HY
            have hbm := hm.bd hR
            go_roundw
            case rel => exact ⟨k + 1, m, by omega, by go_num, rfl, hbm.2, HY, _, rfl⟩
            case measure => simp [intOf]; omega
          · have hlt : ¬ n < m := by omega
            have HY := HM.out.yes He.out hm
            rw [if_neg hlt] at HY
            go_roundw
            case rel => exact ⟨k + 1, n, by omega, by go_num, rfl, hn, HY, _, rfl⟩
            case measure => simp [intOf]; omega
        · have hno : ¬ edge l i k := fun h => hE h.2.2
          rw [decide_eq_false hE] at hbf
          have HN : Hid (MostTo l i (k + 1) n) := HM.out.no hno
          clear hE hno HM
          go_wp2_with (go_at_call 71; refine hbf.mono ?_; rintro e w' ⟨rfl, q1, rfl⟩)
          go_roundw
          case rel => exact ⟨k + 1, n, by omega, by go_num, rfl, hn, HN, _, rfl⟩
          case measure => simp [intOf]; omega
      · have hke : k = l.length := by omega
        subst hke
        have HF := Lib.hid (isFrom_of_most hi HM.out Hex.out)
        have h0 := HM.out.zero
        clear HM
        go_wp2
        go_ret
        exact ⟨⟨_, rfl, HF.out⟩, q, rfl⟩

end Go.Proofs.Ytcjejcbikgcnbaa
