/- Small functions of the reference for layer 43: Find, between. -/
import Derived.Test.YtcjejcbikgcnbaaSl
import Derived.Maps.Own
import Derived.Maps.OwnOps
namespace Go.Proofs.Ytcjejcbikgcnbaa
open Go.RowKit Go.Shelf

/-- The place of the first task with a name. -/
def place (l : List Task) (s : ByteArray) : Option Nat := l.findIdx? fun t => decide (t.name = s)
/-- The same as Go's integer. -/
def pl (l : List Task) (s : ByteArray) : Int := idxOf (place l s)
def names (l : List Task) : List ByteArray := l.map Task.name
/-- All tasks have names of their own. -/
def distinct (l : List Task) : Bool := decide (names l).Nodup

theorem mem_names {l : List Task} {s : ByteArray} : s ∈ names l ↔ ∃ i, ∃ h : i < l.length, l[i].name = s := by
  unfold names
  rw [List.mem_map]
  constructor
  · rintro ⟨t, ht, rfl⟩
    obtain ⟨i, hi, rfl⟩ := List.getElem_of_mem ht
    exact ⟨i, hi, rfl⟩
  · rintro ⟨i, hi, rfl⟩
    exact ⟨l[i], List.getElem_mem hi, rfl⟩
theorem pl_mem {l : List Task} {s : ByteArray} (h : s ∈ names l) : ∃ i, ∃ hi : i < l.length, pl l s = (i : Int) ∧ l[i].name = s := by
  unfold pl place
  cases hf : l.findIdx? (fun t => decide (t.name = s)) with
  | none =>
    exfalso
    rw [List.findIdx?_eq_none_iff] at hf
    obtain ⟨i, hi, rfl⟩ := mem_names.1 h
    have := hf l[i] (List.getElem_mem hi)
    simp at this
  | some i =>
    rw [List.findIdx?_eq_some_iff_getElem] at hf
    obtain ⟨hi, hp, -⟩ := hf
    exact ⟨i, hi, rfl, by simpa using hp⟩
theorem pl_not {l : List Task} {s : ByteArray} (h : s ∉ names l) : pl l s = -1 := by
  unfold pl place
  cases hf : l.findIdx? (fun t => decide (t.name = s)) with
  | none => rfl
  | some i =>
    exfalso
    rw [List.findIdx?_eq_some_iff_getElem] at hf
    obtain ⟨hi, hp, -⟩ := hf
    exact h (mem_names.2 ⟨i, hi, by simpa using hp⟩)
theorem distinct_inj {l : List Task} (h : distinct l = true) {i j : Nat} (hi : i < l.length) (hj : j < l.length) (e : l[i].name = l[j].name) : i = j := by
  have hn : (names l).Nodup := by simpa [distinct] using h
  unfold names at hn
  have hp := List.pairwise_iff_getElem.1 hn
  rcases Nat.lt_trichotomy i j with hlt | rfl | hlt
  · exact absurd (by rw [List.getElem_map, List.getElem_map]; exact e) (hp i j (by simpa using hi) (by simpa using hj) hlt)
  · rfl
  · exact absurd (by rw [List.getElem_map, List.getElem_map]; exact e.symm) (hp j i (by simpa using hj) (by simpa using hi) hlt)
theorem pl_name {l : List Task} (h : distinct l = true) {i : Nat} (hi : i < l.length) : pl l l[i].name = (i : Int) := by
  obtain ⟨j, hj, e, hn⟩ := pl_mem (mem_names.2 ⟨i, hi, rfl⟩)
  rw [e, distinct_inj h hj hi hn]
theorem pl_inj {l : List Task} {s s' : ByteArray} (h : s ∈ names l) (h' : s' ∈ names l) (e : pl l s = pl l s') : s = s' := by
  obtain ⟨i, hi, e1, rfl⟩ := pl_mem h
  obtain ⟨j, hj, e2, rfl⟩ := pl_mem h'
  have : i = j := by omega
  subst this
  rfl

set_option maxHeartbeats 400000 in
theorem refFind (v : Value) (l : List Task) (s : ByteArray) (w : World) (B : Nat) (hl : TasksAt w B v l) :
    Calls Try.prog 67 #[v, .string s] w fun e w' => e = .returned (.int .i64 (idxOf (place l s))) ∧ w = w' := by
  obtain ⟨A, c, rfl, hc1, hc2, hcell⟩ := hl.open_
  unfold maxLen at hc2
  go_enter Try.func67, Try.ntmps67
  go_wp2
  go_loopw [5] (fun x wr => ∃ j : Nat, j ≤ l.length ∧ x = .int .i64 j ∧ ((l.take j).findIdx? fun t => decide (t.name = s)) = none ∧ w = wr) (fun x _ => l.length - (intOf x).toNat)
  case atStart => exact ⟨0, Nat.zero_le _, rfl, by simp, rfl⟩
  case round =>
    obtain ⟨j, hj, rfl, hnm, rfl⟩ := hrel
    have Hnm := Lib.hid hnm
    clear hnm
    by_cases hlt : j < l.length
    · obtain ⟨b, off, rfl, hb, hcell⟩ := hcell j hlt
      obtain ⟨h0, -, -, -, -⟩ := hcell j hlt
      clear hcell
      by_cases hq : l[j].name = s
      · have ht : (l[j].name.toList == s.toList) = true := by rw [str_beq]; simpa using hq
        go_wp2
        go_ret
        exact ⟨by unfold place; rw [find_hit Hnm.out hlt (by simpa using hq)]; rfl, rfl⟩
      · have ht : (l[j].name.toList == s.toList) = false := by rw [str_beq]; simpa using hq
        go_wp2
        go_roundw
        case rel => exact ⟨j + 1, by omega, by go_num, find_miss Hnm.out hlt (by simpa using hq), by trivial⟩
        case measure => simp [intOf]; omega
    · have hje : j = l.length := by omega
      subst hje
      go_wp2
      go_ret
      exact ⟨by unfold place; rw [← List.take_length (l := l), Hnm.out]; rfl, rfl⟩

def betweenB (n lo hi : Int) : Bool := decide (lo ≤ n ∧ n ≤ hi)
set_option maxHeartbeats 400000 in
theorem refBetween (n lo hi : Int) (w : World) : Calls Try.prog 68 #[.int .i64 n, .int .i64 lo, .int .i64 hi] w fun e w' => e = .returned (.bool (betweenB n lo hi)) ∧ w = w' := by
  by_cases h1 : lo ≤ n
  · by_cases h2 : n ≤ hi
    all_goals
      go_enter Try.func68, Try.ntmps68
      go_wp2
      go_ret
      exact ⟨ret_bool (by unfold betweenB; symm; simp; omega), rfl⟩
  · have h1b : decide (lo ≤ n) = false := by simpa using h1
    go_enter Try.func68, Try.ntmps68
    go_wp2
    go_ret
    exact ⟨ret_bool (by unfold betweenB; symm; simp; omega), rfl⟩


end Go.Proofs.Ytcjejcbikgcnbaa
