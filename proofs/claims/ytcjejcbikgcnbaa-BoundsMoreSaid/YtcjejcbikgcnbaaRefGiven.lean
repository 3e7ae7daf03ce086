/- The reference's Given, up and Work of layer 44. -/
import Derived.Test.YtcjejcbikgcnbaaWorkW
namespace Go.Proofs.Ytcjejcbikgcnbaa
open Go.RowKit Go.Shelf

/-- A quotient rounded up. -/
def upN (n b : Int) : Int := if n = 0 then 0 else (n + b - 1) / b
def max2 (a b : Int) : Int := if a < b then b else a

theorem refUp (n b : Int) (w : World) (hn : 0 ≤ n) (hn2 : n ≤ 1000000000) (hb2 : b ≤ 1000) (hb : 0 < n → 1 ≤ b) (hb0 : 0 ≤ b) :
    Calls Try.prog 78 #[.int .i64 n, .int .i64 b] w fun e w' => e = .returned (.int .i64 (upN n b)) ∧ w = w' := by
  by_cases h : n = 0
  · subst h
    go_enter Try.func78, Try.ntmps78
    go_wp2
    go_ret
    exact ⟨rfl, rfl⟩
  · have h1 : 0 < n := by omega
    have h2 := hb h1
    have hz : (n == 0) = false := by simpa using h
    have HV : Hid (upN n b = (n + b - 1) / b) := by unfold Hid upN; rw [if_neg h]
    clear h hb
    go_enter Try.func78, Try.ntmps78
    go_wp2
    go_ret
    exact ⟨ret_int HV.out.symm, rfl⟩

theorem upN_pos {n b : Int} (hn : 0 < n) (hb : 1 ≤ b) : 1 ≤ upN n b := by
  unfold upN
  rw [if_neg (by omega)]
  exact (Int.le_ediv_iff_mul_le (by omega)).2 (by omega)
theorem stepN_up {best s lim : Int} (hs : 0 ≤ s) (hb : 0 ≤ best) : stepN best s lim = max2 best (upN s lim) := by
  unfold stepN upN max2
  by_cases h : 0 < s
  · rw [if_pos h, if_neg (show ¬ s = 0 by omega)]
  · have : s = 0 := by omega
    subst this
    rw [if_neg (by omega), if_pos rfl, if_neg (by omega)]
theorem upN_nonneg {n b : Int} (hn : 0 ≤ n) (hb : 0 < n → 1 ≤ b) : 0 ≤ upN n b := by
  by_cases h : 0 < n
  · have := upN_pos h (hb h); omega
  · unfold upN
    rw [if_pos (by omega)]
    exact Int.le_refl _
theorem workN_up {l : List Task} {c p : Int} (hA : 0 ≤ needN Task.crew l) (hB : 0 ≤ needN Task.pow l) (hc : 0 < needN Task.crew l → 1 ≤ c) : workN l c p = max2 (upN (needN Task.crew l) c) (upN (needN Task.pow l) p) := by
  have h1 := upN_nonneg hA hc
  have e : stepN 0 (needN Task.crew l) c = upN (needN Task.crew l) c := by
    rw [stepN_up hA (Int.le_refl _)]
    unfold max2
    split <;> omega
  unfold workN
  rw [e, stepN_up hB h1]

theorem lim_of {f : Task → Int} {l : List Task} {c : Int} (hfb : ∀ t ∈ l, 0 ≤ f t) (hff : ∀ t ∈ l, f t ≤ c) (hs : 0 < needN f l) : 1 ≤ c := by
  rcases Int.lt_or_le c 1 with hl | hl
  · exfalso
    have : ∀ l' : List Task, (∀ t ∈ l', t ∈ l) → needN f l' = 0 := fun l' => by
      induction l' with
      | nil => intro _; rfl
      | cons t l' ih =>
        intro h'
        have h1 := hfb t (h' t (by simp))
        have h2 := hff t (h' t (by simp))
        have e : f t = 0 := by omega
        have ih := ih fun t ht => h' t (by simp [ht])
        have e2 : needN f (t :: l') = f t * t.len + needN f l' := by simp [needN]
        rw [e2, ih, e]
        simp
    have := this l fun t ht => ht
    omega
  · exact hl

set_option maxRecDepth 100000 in
set_option maxHeartbeats 2000000 in
theorem refWork (v : Value) (l : List Task) (c p : Int) (B : Nat) (w : World) (hl : TasksAt w B v l) (hg : givenN l c p = 0) :
    Calls Try.prog 28 #[v, .int .i64 c, .int .i64 p] w fun e w' => e = .returned (.int .i64 (workN l c p)) ∧ ∃ q, w.drewN q = w' := by
  obtain ⟨hR, hc1, hp1, hc0, hp0, hfit⟩ := givenN_zero hg
  have HL := Lib.hid hl
  have HRT := Lib.hid hR
  have h8 := hR.len
  have HSum : ∀ (f : Task → Int), (∀ t, fieldB t = true → 0 ≤ f t ∧ f t ≤ 100) → ∀ j, 0 ≤ needN f (l.take j) ∧ needN f (l.take j) ≤ 8000000 := fun f hf j => by
    have hsb := needN_bd f (l.take j) fun t ht => by
      have hx := field_mem HRT.out (List.mem_of_mem_take ht)
      have h' := fieldB_len hx
      exact mul_bd (hf t hx).1 (hf t hx).2 h'.1 h'.2
    have : (l.take j).length ≤ 8 := by rw [List.length_take]; omega
    omega
  have HA := HSum Task.crew fun t h => fieldB_crew h
  have HB := HSum Task.pow fun t h => fieldB_pow h
  have hA := HA l.length
  have hB := HB l.length
  rw [List.take_length] at hA hB
  have hcl : 0 < needN Task.crew l → 1 ≤ c := lim_of (fun t ht => (fieldB_crew (field_mem HRT.out ht)).1) fun t ht => (hfit t ht).1
  have hpl : 0 < needN Task.pow l → 1 ≤ p := lim_of (fun t ht => (fieldB_pow (field_mem HRT.out ht)).1) fun t ht => (hfit t ht).2
  have hU1 := fun w => refUp (needN Task.crew l) c w hA.1 (by omega) hc1 hcl hc0
  have hU2 := fun w => refUp (needN Task.pow l) p w hB.1 (by omega) hp1 hpl hp0
  have HV := Lib.hid (workN_up (p := p) hA.1 hB.1 hcl)
  have hu1 := upN_nonneg hA.1 hcl
  have hu2 := upN_nonneg hB.1 hpl
  have HA := Lib.hid HA
  have HB := Lib.hid HB
  obtain ⟨A, cc, rfl, hA1, hA2, -⟩ := hl.open_
  unfold maxLen at hA2
  clear hg hfit hl HSum hcl hpl hR hA hB
  go_enter Try.func28, Try.ntmps28
  go_wp2
  go_loopw [9, 7, 8] (fun s a b wr => ∃ (j : Nat), j ≤ l.length ∧ s = .int .i64 j ∧ a = .int .i64 (needN Task.crew (l.take j)) ∧ b = .int .i64 (needN Task.pow (l.take j)) ∧ ∃ q, wr = w.drewN q) (fun s _ _ _ => l.length - (intOf s).toNat)
  case atStart => exact ⟨0, Nat.zero_le _, rfl, rfl, rfl, 0, rfl⟩
  case round =>
    obtain ⟨j, hj, rfl, rfl, rfl, q, rfl⟩ := hrel
    by_cases hjl : j < l.length
    · obtain ⟨b, off, rfl, hb, hcell⟩ := HL.out.cells hjl
      obtain ⟨-, t1, t2, t3, -⟩ := hcell j hjl
      clear hcell hU1 hU2
      have hsA := HA.out j
      have hsB := HB.out j
      have hc := fieldB_crew (HRT.out.field j hjl)
      have hp := fieldB_pow (HRT.out.field j hjl)
      obtain ⟨hl1, hl2⟩ := fieldB_len (HRT.out.field j hjl)
      have hmA := mul_bd hc.1 hc.2 hl1 hl2
      have hmB := mul_bd hp.1 hp.2 hl1 hl2
      have hstA := Lib.hid (needN_take Task.crew l j hjl)
      have hstB := Lib.hid (needN_take Task.pow l j hjl)
      have i1 : (0 : Int) ≤ (j : Int) := Int.natCast_nonneg _
      have i2 : (j : Int) < (l.length : Int) := by omega
      have w1 : IntKind.i64.wrap (l[j].crew * l[j].len) = l[j].crew * l[j].len := IntWalk.i64_in _ (by omega)
      have w2 : IntKind.i64.wrap (needN Task.crew (l.take j) + l[j].crew * l[j].len) = needN Task.crew (l.take j) + l[j].crew * l[j].len := IntWalk.i64_in _ (by omega)
      have w3 : IntKind.i64.wrap (l[j].pow * l[j].len) = l[j].pow * l[j].len := IntWalk.i64_in _ (by omega)
      have w4 : IntKind.i64.wrap (needN Task.pow (l.take j) + l[j].pow * l[j].len) = needN Task.pow (l.take j) + l[j].pow * l[j].len := IntWalk.i64_in _ (by omega)
      clear hsA hsB hc hp hmA hmB
      generalize l[j] = t at *
      obtain ⟨tn, tl, tc, tp, ta, tb, tf⟩ := t
      simp only at t1 t2 t3 w1 w2 w3 w4 hl1 hl2 hstA hstB
      go_wp2_with fail
      go_quiet (fail)
      go_wp2_with fail
      go_quiet (fail)
      go_wp2_with fail
      go_roundw
      case rel => exact ⟨j + 1, by omega, by go_num, by rw [hstA.out], by rw [hstB.out], _, rfl⟩
      case measure => simp [intOf]; omega
    · have hje : j = l.length := by omega
      subst hje
      rw [List.take_length] at *
      go_wp2_with (go_at_call 78; (first | with_reducible refine (hU1 _).mono ?_ | with_reducible refine (hU2 _).mono ?_); rintro e w' ⟨rfl, rfl⟩)
      all_goals
        go_ret
        refine ⟨ret_int ?_, _, rfl⟩
        rw [HV.out]
        unfold max2
        repeat' split
        all_goals omega

/-- Given as the reference has it. -/
theorem givenN_no {l : List Task} {c p : Int} (h : validB l c p = true) : givenN l c p = if l.any (tooMuch c p) then 22 else 0 := by unfold givenN; rw [h]; rfl

set_option maxRecDepth 100000 in
set_option maxHeartbeats 2000000 in
theorem refGiven (v : Value) (l : List Task) (c p : Int) (w : World) (hl : TasksAt w w.heap.size v l) :
    Calls Try.prog 26 #[v, .int .i64 c, .int .i64 p] w fun e w' => e = .returned (.int .i64 (givenN l c p)) ∧ Below w.heap.size w w' := by
  have hV := refValid v l c p w hl
  have HL := Lib.hid hl
  obtain ⟨A, cc, rfl, hA1, hA2, -⟩ := hl.open_
  unfold maxLen at hA2
  clear hl
  cases hv : validB l c p with
  | false =>
    have HG : Hid (givenN l c p = 1) := by unfold Hid givenN; rw [hv]; rfl
    rw [hv] at hV
    clear hv
    go_enter Try.func26, Try.ntmps26
    go_wp2_with (go_at_call 42; refine hV.mono ?_; rintro e w1 ⟨rfl, hb1⟩)
    go_ret
    exact ⟨ret_int HG.out.symm, hb1⟩
  | true =>
    have HG := Lib.hid (givenN_no hv)
    rw [hv] at hV
    clear hv
    go_enter Try.func26, Try.ntmps26
    go_wp2_with (go_at_call 42; refine hV.mono ?_; rintro e w1 ⟨rfl, hb1⟩)
    go_loopw [7] (fun s wr => ∃ (j : Nat), j ≤ l.length ∧ s = .int .i64 j ∧ Hid ((l.take j).any (tooMuch c p) = false) ∧ ∃ q, wr = w1.drewN q) (fun s _ => l.length - (intOf s).toNat)
    case atStart => exact ⟨0, Nat.zero_le _, rfl, by unfold Hid; simp, 0, rfl⟩
    case round =>
      obtain ⟨j, hj, rfl, HN, q, rfl⟩ := hrel
      by_cases hjl : j < l.length
      · obtain ⟨b, off, rfl, hb, hcell⟩ := (HL.out.below hb1 (Nat.le_refl _)).cells hjl
        obtain ⟨-, -, t2, t3, -⟩ := hcell j hjl
        clear hcell hV
        have HT : Hid ((l.take (j + 1)).any (tooMuch c p) = tooMuch c p l[j]) := by
          unfold Hid
          rw [take_snoc l j hjl, List.any_append, HN.out]
          simp
        have HY : Hid (tooMuch c p l[j] = true → l.any (tooMuch c p) = true) := fun h => List.any_eq_true.2 ⟨_, List.getElem_mem hjl, h⟩
        generalize l[j] = t at *
        obtain ⟨tn, tl, tc, tp, ta, tb, tf⟩ := t
        simp only at t2 t3 HT HY
        by_cases h1 : c < tc
        · have HV : Hid (givenN l c p = 22) := by unfold Hid; rw [HG.out, HY.out (by unfold tooMuch; simp [h1])]; rfl
          have hd : decide (c < tc) = true := by simpa using h1
          clear HT HY
          go_wp2_with fail
          go_ret
          exact ⟨ret_int HV.out.symm, below_drewN hb1 _⟩
        · by_cases h2 : p < tp
          · have HV : Hid (givenN l c p = 22) := by unfold Hid; rw [HG.out, HY.out (by unfold tooMuch; simp [h2])]; rfl
            have hd : decide (c < tc) = false := by simpa using h1
            have hd2 : decide (p < tp) = true := by simpa using h2
            clear HT HY
            go_wp2_with fail
            go_ret
            exact ⟨ret_int HV.out.symm, below_drewN hb1 _⟩
          · have HN' : Hid ((l.take (j + 1)).any (tooMuch c p) = false) := by
              unfold Hid
              rw [HT.out]
              unfold tooMuch
              simp [h1, h2]
            have hd : decide (c < tc) = false := by simpa using h1
            have hd2 : decide (p < tp) = false := by simpa using h2
            clear HT HY HN
            go_wp2_with fail
            go_roundw
            case rel => exact ⟨j + 1, by omega, by go_num, HN', _, rfl⟩
            case measure => simp [intOf]; omega
      · have hje : j = l.length := by omega
        subst hje
        have HV : Hid (givenN l c p = 0) := by
          unfold Hid
          have := HN.out
          rw [List.take_length] at this
          rw [HG.out, this]
          rfl
        go_wp2_with fail
        go_ret
        exact ⟨ret_int HV.out.symm, below_drewN hb1 _⟩

end Go.Proofs.Ytcjejcbikgcnbaa
