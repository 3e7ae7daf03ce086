/- Names: decimal.IsName and the reference's IsName are one test. -/
import Derived.Test.YtcjejcbikgcnbaaBase
import Derived.PlainAid
namespace Go.Proofs.Ytcjejcbikgcnbaa
open Go.RowKit Go.Shelf Go.PlainAid

def letterB (n : Int) : Bool := decide ((97 ≤ n ∧ n ≤ 122) ∨ (65 ≤ n ∧ n ≤ 90))
def digitB (n : Int) : Bool := decide (48 ≤ n ∧ n ≤ 57)
def wordB (n : Int) : Bool := letterB n || digitB n || decide (n = 95)
/-- k is how many bytes at the beginning are those of a word. -/
def WordTo (s : ByteArray) (k : Nat) : Prop := k ≤ s.size ∧ (∀ i, i < k → wordB (bt s i) = true) ∧ (k < s.size → wordB (bt s k) = false)
/-- A name: 1 to 20 bytes, a letter, then letters, digits, underscores. -/
def nameB (s : ByteArray) : Bool := decide (0 < s.size ∧ s.size ≤ 20 ∧ letterB (bt s 0) = true ∧ ∀ i, i < s.size → wordB (bt s i) = true)

theorem WordTo.start (s : ByteArray) : ∀ i, i < 0 → wordB (bt s i) = true := fun i h => absurd h (Nat.not_lt_zero i)
theorem word_more {s : ByteArray} {k : Nat} (h : ∀ i, i < k → wordB (bt s i) = true) (hk : wordB (bt s k) = true) : ∀ i, i < k + 1 → wordB (bt s i) = true := by
  intro i hi
  by_cases e : i = k
  · subst e; exact hk
  · exact h i (by omega)
theorem name_of_word {s : ByteArray} {k : Nat} (h : WordTo s k) (h0 : 0 < s.size) (h20 : s.size ≤ 20) (hl : letterB (bt s 0) = true) : decide ((k : Int) = (s.size : Int)) = nameB s := by
  unfold nameB
  rw [Bool.eq_iff_iff, decide_eq_true_iff, decide_eq_true_iff]
  constructor
  · intro e
    have : k = s.size := by omega
    subst this
    exact ⟨h0, h20, hl, h.2.1⟩
  · intro ⟨_, _, _, ha⟩
    rcases Nat.lt_or_ge k s.size with hlt | hge
    · have := h.2.2 hlt
      rw [ha k hlt] at this
      cases this
    · have := h.1; omega
theorem name_no {s : ByteArray} (h : ¬ (0 < s.size ∧ s.size ≤ 20 ∧ letterB (bt s 0) = true)) : nameB s = false := by
  unfold nameB
  rw [decide_eq_false_iff_not]
  exact fun ⟨a, b, c, _⟩ => h ⟨a, b, c⟩

set_option maxHeartbeats 400000 in
theorem refLetter (n : Int) (w : World) : Calls Try.prog 112 #[.int .u8 n] w fun e w' => e = .returned (.bool (letterB n)) ∧ w = w' := by
  by_cases h1 : 97 ≤ n <;> by_cases h2 : n ≤ 122 <;> by_cases h3 : 65 ≤ n <;> by_cases h4 : n ≤ 90 <;> first
    | (exfalso; omega)
    | (have h1b : decide (97 ≤ n) = true := by simpa using h1
       have h2b : decide (n ≤ 122) = true := by simpa using h2
       go_enter Try.func112, Try.ntmps112
       go_wp2
       go_ret
       exact ⟨ret_bool (by unfold letterB; symm; simp; omega), rfl⟩)
    | (have h1b : decide (97 ≤ n) = true := by simpa using h1
       have h2b : decide (n ≤ 122) = false := by simpa using h2
       have h3b : decide (65 ≤ n) = true := by simpa using h3
       have h4b : decide (n ≤ 90) = false := by simpa using h4
       go_enter Try.func112, Try.ntmps112
       go_wp2
       go_ret
       exact ⟨ret_bool (by unfold letterB; symm; simp; omega), rfl⟩)
    | (have h1b : decide (97 ≤ n) = false := by simpa using h1
       have h3b : decide (65 ≤ n) = true := by simpa using h3
       have h4b : decide (n ≤ 90) = true := by simpa using h4
       go_enter Try.func112, Try.ntmps112
       go_wp2
       go_ret
       exact ⟨ret_bool (by unfold letterB; symm; simp; omega), rfl⟩)
    | (have h1b : decide (97 ≤ n) = false := by simpa using h1
       have h3b : decide (65 ≤ n) = true := by simpa using h3
       have h4b : decide (n ≤ 90) = false := by simpa using h4
       go_enter Try.func112, Try.ntmps112
       go_wp2
       go_ret
       exact ⟨ret_bool (by unfold letterB; symm; simp; omega), rfl⟩)
    | (have h1b : decide (97 ≤ n) = false := by simpa using h1
       have h3b : decide (65 ≤ n) = false := by simpa using h3
       go_enter Try.func112, Try.ntmps112
       go_wp2
       go_ret
       exact ⟨ret_bool (by unfold letterB; symm; simp; omega), rfl⟩)

set_option maxHeartbeats 400000 in
theorem refDigit (n : Int) (w : World) : Calls Try.prog 131 #[.int .u8 n] w fun e w' => e = .returned (.bool (digitB n)) ∧ w = w' := by
  by_cases h1 : 48 ≤ n
  · by_cases h2 : n ≤ 57
    all_goals
      go_enter Try.func131, Try.ntmps131
      go_wp2
      go_ret
      exact ⟨ret_bool (by unfold digitB; symm; simp; omega), rfl⟩
  · have h1b : decide (48 ≤ n) = false := by simpa using h1
    go_enter Try.func131, Try.ntmps131
    go_wp2
    go_ret
    exact ⟨ret_bool (by unfold digitB; symm; simp; omega), rfl⟩

set_option maxHeartbeats 400000 in
theorem decLetter (n : Int) (w : World) : Calls Try.prog 133 #[.int .u8 n] w fun e w' => e = .returned (.bool (letterB n)) ∧ w = w' := by
  by_cases h1 : 97 ≤ n <;> by_cases h2 : n ≤ 122 <;> by_cases h3 : 65 ≤ n <;> by_cases h4 : n ≤ 90 <;> first
    | (exfalso; omega)
    | (have h1b : decide (97 ≤ n) = true := by simpa using h1
       have h2b : decide (n ≤ 122) = true := by simpa using h2
       go_enter Try.func133, Try.ntmps133
       go_wp2
       go_ret
       exact ⟨ret_bool (by unfold letterB; symm; simp; omega), rfl⟩)
    | (have h1b : decide (97 ≤ n) = true := by simpa using h1
       have h2b : decide (n ≤ 122) = false := by simpa using h2
       have h3b : decide (65 ≤ n) = true := by simpa using h3
       have h4b : decide (n ≤ 90) = false := by simpa using h4
       go_enter Try.func133, Try.ntmps133
       go_wp2
       go_ret
       exact ⟨ret_bool (by unfold letterB; symm; simp; omega), rfl⟩)
    | (have h1b : decide (97 ≤ n) = false := by simpa using h1
       have h3b : decide (65 ≤ n) = true := by simpa using h3
       have h4b : decide (n ≤ 90) = true := by simpa using h4
       go_enter Try.func133, Try.ntmps133
       go_wp2
       go_ret
       exact ⟨ret_bool (by unfold letterB; symm; simp; omega), rfl⟩)
    | (have h1b : decide (97 ≤ n) = false := by simpa using h1
       have h3b : decide (65 ≤ n) = true := by simpa using h3
       have h4b : decide (n ≤ 90) = false := by simpa using h4
       go_enter Try.func133, Try.ntmps133
       go_wp2
       go_ret
       exact ⟨ret_bool (by unfold letterB; symm; simp; omega), rfl⟩)
    | (have h1b : decide (97 ≤ n) = false := by simpa using h1
       have h3b : decide (65 ≤ n) = false := by simpa using h3
       go_enter Try.func133, Try.ntmps133
       go_wp2
       go_ret
       exact ⟨ret_bool (by unfold letterB; symm; simp; omega), rfl⟩)

set_option maxHeartbeats 400000 in
theorem decDigit (n : Int) (w : World) : Calls Try.prog 141 #[.int .u8 n] w fun e w' => e = .returned (.bool (digitB n)) ∧ w = w' := by
  by_cases h1 : 48 ≤ n
  · by_cases h2 : n ≤ 57
    all_goals
      go_enter Try.func141, Try.ntmps141
      go_wp2
      go_ret
      exact ⟨ret_bool (by unfold digitB; symm; simp; omega), rfl⟩
  · have h1b : decide (48 ≤ n) = false := by simpa using h1
    go_enter Try.func141, Try.ntmps141
    go_wp2
    go_ret
    exact ⟨ret_bool (by unfold digitB; symm; simp; omega), rfl⟩

set_option maxHeartbeats 1000000 in
theorem refWord (s : ByteArray) (hs : s.size ≤ maxLen) (w : World) : Calls Try.prog 113 #[.string s, .int .i64 0] w fun e w' => (∃ k : Nat, e = .returned (.int .i64 k) ∧ WordTo s k) ∧ w = w' := by
  unfold maxLen at hs
  have hbt := get_bt s
  go_enter Try.func113, Try.ntmps113
  go_wp2
  go_loopw [1] (fun x wr => ∃ j : Nat, j ≤ s.size ∧ x = .int .i64 j ∧ Hid (∀ i, i < j → wordB (bt s i) = true) ∧ w = wr) (fun x _ => s.size - (intOf x).toNat)
  case atStart => exact ⟨0, Nat.zero_le _, rfl, WordTo.start s, rfl⟩
  case round =>
    obtain ⟨j, hj, rfl, Hw, rfl⟩ := hrel
    by_cases hlt : j < s.size
    · have hL := refLetter (bt s j) w
      have hD := refDigit (bt s j) w
      cases h1 : letterB (bt s j) with
      | true =>
        rw [h1] at hL
        have HK : Hid (wordB (bt s j) = true) := by unfold Hid wordB; simp [h1]
        clear h1
        go_wp2_with (go_at_call 112; refine hL.mono ?_; rintro e w' ⟨rfl, rfl⟩)
        go_roundw
        case rel => exact ⟨j + 1, by omega, by go_num, word_more Hw.out HK.out, by trivial⟩
        case measure => simp [intOf]; omega
      | false =>
        rw [h1] at hL
        cases h2 : digitB (bt s j) with
        | true =>
          rw [h2] at hD
          have HK : Hid (wordB (bt s j) = true) := by unfold Hid wordB; simp [h2]
          clear h1 h2
          go_wp2_with (first | (go_at_call 112; refine hL.mono ?_; rintro e w' ⟨rfl, rfl⟩) | (go_at_call 131; refine hD.mono ?_; rintro e w' ⟨rfl, rfl⟩))
          go_roundw
          case rel => exact ⟨j + 1, by omega, by go_num, word_more Hw.out HK.out, by trivial⟩
          case measure => simp [intOf]; omega
        | false =>
          rw [h2] at hD
          by_cases h3 : bt s j = 95
          · have HK : Hid (wordB (bt s j) = true) := by unfold Hid wordB; simp [h3]
            have h3b : (bt s j == 95) = true := by simpa using h3
            clear h1 h2 h3
            go_wp2_with (first | (go_at_call 112; refine hL.mono ?_; rintro e w' ⟨rfl, rfl⟩) | (go_at_call 131; refine hD.mono ?_; rintro e w' ⟨rfl, rfl⟩))
            go_roundw
            case rel => exact ⟨j + 1, by omega, by go_num, word_more Hw.out HK.out, by trivial⟩
            case measure => simp [intOf]; omega
          · have HK : Hid (wordB (bt s j) = false) := by unfold Hid wordB; simp [h1, h2, h3]
            have h3b : (bt s j == 95) = false := by simpa using h3
            clear h1 h2 h3
            go_wp2_with (first | (go_at_call 112; refine hL.mono ?_; rintro e w' ⟨rfl, rfl⟩) | (go_at_call 131; refine hD.mono ?_; rintro e w' ⟨rfl, rfl⟩))
            go_ret
            exact ⟨⟨j, rfl, hj, Hw.out, fun _ => HK.out⟩, rfl⟩
    · go_wp2
      go_ret
      exact ⟨⟨j, rfl, hj, Hw.out, fun h => absurd h hlt⟩, rfl⟩

set_option maxHeartbeats 1000000 in
theorem decWord (s : ByteArray) (hs : s.size ≤ maxLen) (w : World) : Calls Try.prog 134 #[.string s] w fun e w' => (∃ k : Nat, e = .returned (.int .i64 k) ∧ WordTo s k) ∧ w = w' := by
  unfold maxLen at hs
  have hbt := get_bt s
  go_enter Try.func134, Try.ntmps134
  go_wp2
  go_loopw [3] (fun x wr => ∃ j : Nat, j ≤ s.size ∧ x = .int .i64 j ∧ Hid (∀ i, i < j → wordB (bt s i) = true) ∧ w = wr) (fun x _ => s.size - (intOf x).toNat)
  case atStart => exact ⟨0, Nat.zero_le _, rfl, WordTo.start s, rfl⟩
  case round =>
    obtain ⟨j, hj, rfl, Hw, rfl⟩ := hrel
    by_cases hlt : j < s.size
    · have hL := decLetter (bt s j) w
      have hD := decDigit (bt s j) w
      cases h1 : letterB (bt s j) with
      | true =>
        rw [h1] at hL
        have HK : Hid (wordB (bt s j) = true) := by unfold Hid wordB; simp [h1]
        clear h1
        go_wp2_with (go_at_call 133; refine hL.mono ?_; rintro e w' ⟨rfl, rfl⟩)
        go_roundw
        case rel => exact ⟨j + 1, by omega, by go_num, word_more Hw.out HK.out, by trivial⟩
        case measure => simp [intOf]; omega
      | false =>
        rw [h1] at hL
        cases h2 : digitB (bt s j) with
        | true =>
          rw [h2] at hD
          have HK : Hid (wordB (bt s j) = true) := by unfold Hid wordB; simp [h2]
          clear h1 h2
          go_wp2_with (first | (go_at_call 133; refine hL.mono ?_; rintro e w' ⟨rfl, rfl⟩) | (go_at_call 141; refine hD.mono ?_; rintro e w' ⟨rfl, rfl⟩))
          go_roundw
          case rel => exact ⟨j + 1, by omega, by go_num, word_more Hw.out HK.out, by trivial⟩
          case measure => simp [intOf]; omega
        | false =>
          rw [h2] at hD
          by_cases h3 : bt s j = 95
          · have HK : Hid (wordB (bt s j) = true) := by unfold Hid wordB; simp [h3]
            have h3b : (bt s j == 95) = true := by simpa using h3
            clear h1 h2 h3
            go_wp2_with (first | (go_at_call 133; refine hL.mono ?_; rintro e w' ⟨rfl, rfl⟩) | (go_at_call 141; refine hD.mono ?_; rintro e w' ⟨rfl, rfl⟩))
            go_roundw
            case rel => exact ⟨j + 1, by omega, by go_num, word_more Hw.out HK.out, by trivial⟩
            case measure => simp [intOf]; omega
          · have HK : Hid (wordB (bt s j) = false) := by unfold Hid wordB; simp [h1, h2, h3]
            have h3b : (bt s j == 95) = false := by simpa using h3
            clear h1 h2 h3
            go_wp2_with (first | (go_at_call 133; refine hL.mono ?_; rintro e w' ⟨rfl, rfl⟩) | (go_at_call 141; refine hD.mono ?_; rintro e w' ⟨rfl, rfl⟩))
            go_ret
            exact ⟨⟨j, rfl, hj, Hw.out, fun _ => HK.out⟩, rfl⟩
    · go_wp2
      go_ret
      exact ⟨⟨j, rfl, hj, Hw.out, fun h => absurd h hlt⟩, rfl⟩

set_option maxHeartbeats 1000000 in
theorem refIsName (s : ByteArray) (hs : s.size ≤ maxLen) (w : World) : Calls Try.prog 66 #[.string s] w fun e w' => e = .returned (.bool (nameB s)) ∧ w = w' := by
  have hW := refWord s hs w
  unfold maxLen at hs
  by_cases h0 : s.size = 0
  · have HN := Lib.hid (name_no (s := s) (by omega))
    have he0 : ((s.size : Int) == 0) = true := beq_iff_eq.2 (by omega)
    clear h0
    go_enter Try.func66, Try.ntmps66
    go_wp2
    go_ret
    exact ⟨ret_bool HN.out.symm, rfl⟩
  · have he0 : ((s.size : Int) == 0) = false := beq_eq_false_iff_ne.2 (by omega)
    have hpos : 0 < s.size := by omega
    clear h0
    by_cases h20 : s.size ≤ 20
    · have hbt := get_bt s
      have hL := refLetter (bt s 0) w
      cases h1 : letterB (bt s 0) with
      | false =>
        rw [h1] at hL
        have HN := Lib.hid (name_no (s := s) (by simp [h1]))
        clear h1
        go_enter Try.func66, Try.ntmps66
        go_wp2_with (go_at_call 112; refine hL.mono ?_; rintro e w' ⟨rfl, rfl⟩)
        go_ret
        exact ⟨ret_bool HN.out.symm, rfl⟩
      | true =>
        rw [h1] at hL
        have HN := fun k (h : WordTo s k) => name_of_word h hpos h20 h1
        have HN := Lib.hid HN
        clear h1
        go_enter Try.func66, Try.ntmps66
        go_wp2_with (first | (go_at_call 112; refine hL.mono ?_; rintro e w' ⟨rfl, rfl⟩) | (go_at_call 113; refine hW.mono ?_; rintro e w' ⟨⟨k, rfl, hk⟩, rfl⟩))
        go_ret
        exact ⟨ret_bool (by rw [← HN.out k hk]; rfl), rfl⟩
    · have HN := Lib.hid (name_no (s := s) (by omega))
      go_enter Try.func66, Try.ntmps66
      go_wp2
      go_ret
      exact ⟨ret_bool HN.out.symm, rfl⟩

set_option maxHeartbeats 1000000 in
theorem decIsName (s : ByteArray) (hs : s.size ≤ maxLen) (w : World) : Calls Try.prog 120 #[.string s] w fun e w' => e = .returned (.bool (nameB s)) ∧ w = w' := by
  have hW := decWord s hs w
  unfold maxLen at hs
  by_cases h0 : s.size = 0
  · have HN := Lib.hid (name_no (s := s) (by omega))
    have he : s.toList.isEmpty = true := by rw [Go.ByteArray.toList_eq]; simpa [← ByteArray.size_data] using h0
    clear h0
    go_enter Try.func120, Try.ntmps120
    go_wp2
    go_ret
    exact ⟨ret_bool HN.out.symm, rfl⟩
  · have he : s.toList.isEmpty = false := by rw [Go.ByteArray.toList_eq]; simpa [← ByteArray.size_data] using h0
    have hpos : 0 < s.size := by omega
    clear h0
    by_cases h20 : s.size ≤ 20
    · have hbt := get_bt s
      have hL := decLetter (bt s 0) w
      cases h1 : letterB (bt s 0) with
      | false =>
        rw [h1] at hL
        have HN := Lib.hid (name_no (s := s) (by simp [h1]))
        clear h1
        go_enter Try.func120, Try.ntmps120
        go_wp2_with (go_at_call 133; refine hL.mono ?_; rintro e w' ⟨rfl, rfl⟩)
        go_ret
        exact ⟨ret_bool HN.out.symm, rfl⟩
      | true =>
        rw [h1] at hL
        have HN := fun k (h : WordTo s k) => name_of_word h hpos h20 h1
        have HN := Lib.hid HN
        clear h1
        go_enter Try.func120, Try.ntmps120
        go_wp2_with (first | (go_at_call 133; refine hL.mono ?_; rintro e w' ⟨rfl, rfl⟩) | (go_at_call 134; refine hW.mono ?_; rintro e w' ⟨⟨k, rfl, hk⟩, rfl⟩))
        go_ret
        exact ⟨ret_bool (by rw [← HN.out k hk]; rfl), rfl⟩
    · have HN := Lib.hid (name_no (s := s) (by omega))
      go_enter Try.func120, Try.ntmps120
      go_wp2
      go_ret
      exact ⟨ret_bool HN.out.symm, rfl⟩

end Go.Proofs.Ytcjejcbikgcnbaa
