/- slices.Repeat of one int; newPlan. -/
import Derived.Test.YtcjejcbikgcnbaaPlan
import Derived.Laws.CopyOwn
import Derived.Deep.RegionLaw
namespace Go.Proofs.Ytcjejcbikgcnbaa
open Go.RowKit Go.Shelf

set_option maxHeartbeats 4000000 in
theorem mul64One (n : Nat) (w : World) (h : n ≤ 8) : Calls Try.prog 140 #[.int .u64 1, .int .u64 n] w fun e w' => e = .returned (.tuple #[.int .u64 0, .int .u64 n]) ∧ w = w' := by
  rcases (show n = 0 ∨ n = 1 ∨ n = 2 ∨ n = 3 ∨ n = 4 ∨ n = 5 ∨ n = 6 ∨ n = 7 ∨ n = 8 by omega) with rfl | rfl | rfl | rfl | rfl | rfl | rfl | rfl | rfl
  all_goals
    go_enter Try.func140, Try.ntmps140
    go_wp2
    refine bodyPost_ret (results_tmp2 rfl _ _ _) (by rfl) ?_
    exact ⟨rfl, rfl⟩
theorem mulOne (n : Nat) (w : World) (h : n ≤ 8) : Calls Try.prog 132 #[.int .u64 1, .int .u64 n] w fun e w' => e = .returned (.tuple #[.int .u64 0, .int .u64 n]) ∧ w = w' := by
  have hM := mul64One n w h
  go_enter Try.func132, Try.ntmps132
  go_wp2_with (go_at_call 140; refine hM.mono ?_; rintro e w1 ⟨rfl, rfl⟩)
  refine bodyPost_ret (results_tmp2 rfl _ _ _) (by rfl) ?_
  exact ⟨rfl, rfl⟩

/-- k times x, then zeros. -/
def part (x : Int) (k n : Nat) : List Int := List.replicate k x ++ List.replicate (n - k) 0
theorem part_len {x : Int} {k n : Nat} (h : k ≤ n) : (part x k n).length = n := by simp [part]; omega
theorem part_get {x : Int} {k n j : Nat} (hj : j < k) : (part x k n)[j]? = some x := by
  unfold part
  rw [List.getElem?_append_left (by simpa using hj), List.getElem?_replicate, if_pos hj]
theorem part_splice {x : Int} {k m n : Nat} (h : k + m ≤ n) : ((part x k n).map (Value.int .i64)).take k ++ (List.replicate m (Value.int .i64 x) ++ ((part x k n).map (Value.int .i64)).drop (k + m)) = (part x (k + m) n).map (Value.int .i64) := by
  apply List.ext_getElem?
  intro j
  unfold part
  simp only [List.getElem?_append, List.getElem?_take, List.getElem?_drop, List.getElem?_map, List.getElem?_replicate, List.length_take, List.length_map, List.length_append, List.length_replicate]
  repeat' split
  all_goals first | rfl | omega

theorem own_whole {w : World} {base e g n : Nat} {xs : List Value} (h : w.ownsRow base e 1 (.slice (some ⟨g, 0, none⟩) n n) n xs) : w.heap[g]? = some (.cells xs.toArray e (0, 0)) ∧ base ≤ g := by
  rcases h.2 with ⟨h1, _⟩ | ⟨g', cap, cur, h1, hb, hg, h2, h3, h4, h5⟩
  · cases h1
  · injection h1 with e1 _ e2
    injection e1 with e1
    injection e1 with e1
    subst e1 e2
    rw [List.take_of_length_le (by rw [Array.length_toList]; omega)] at h5
    subst h5
    exact ⟨hg, hb⟩
theorem own_of_whole {w : World} {base e g n : Nat} {xs : List Value} (hg : w.heap[g]? = some (.cells xs.toArray e (0, 0))) (hb : base ≤ g) (hl : xs.length = n) (hn : n ≤ maxLen) : w.ownsRow base e 1 (.slice (some ⟨g, 0, none⟩) n n) n xs :=
  ⟨by omega, .inr ⟨g, n, xs.toArray, rfl, hb, hg, Nat.le_refl _, hn, by simp [hl], by simp [← hl]⟩⟩
theorem part_one {x : Int} {n : Nat} (h : 1 ≤ n) : splice ((part x 0 n).map (Value.int .i64)) 0 [Value.int .i64 x] = (part x 1 n).map (Value.int .i64) := part_splice (k := 0) (m := 1) (by omega)
theorem part_zero (x : Int) (n : Nat) : part x 0 n = List.replicate n 0 := by simp [part]
theorem part_full (x : Int) (n : Nat) : part x n n = List.replicate n x := by simp [part]

theorem one_src {w : World} {b : Nat} {v0 : Value} (h : w.cell? ⟨b, 0, none⟩ = some v0) : ∀ (j : Nat) (v : Value), [v0][j]? = some v → w.cell? ((Addr.mk b 0 none).add j) = some v := fun j v hv => by
  cases j with
  | zero =>
    obtain rfl : v0 = v := by simpa using hv
    exact h
  | succ j => simp at hv
theorem made_part {w w2 : World} {x : Int} {n : Nat} (hown : w2.ownsRow w.heap.size 3 1 (.slice (some ⟨w.heap.size, 0, none⟩) n n) n (madeCells (Value.cells (.int .i64 0)) (n * 1)).toList) :
    w2.heap[w.heap.size]? = some (.cells ((part x 0 n).map (Value.int .i64)).toArray 3 (0, 0)) := by
  rw [made_zero, ← part_zero x n] at hown
  exact (own_whole hown).1

set_option maxRecDepth 100000 in
set_option maxHeartbeats 800000 in
theorem repeatOne (b : Nat) (x : Int) (n : Nat) (w : World) (h8 : n ≤ 8) (hc : w.cell? ⟨b, 0, none⟩ = some (.int .i64 x)) (hb : b < w.heap.size) :
    Calls Try.prog 117 #[.slice (some ⟨b, 0, none⟩) 1 1, .int .i64 n] w fun e w' => ∃ g, e = .returned (.slice (some ⟨g, 0, none⟩) n n) ∧ w'.ownsRow w.heap.size 3 1 (.slice (some ⟨g, 0, none⟩) n n) n ((List.replicate n x).map (Value.int .i64)) ∧ Below w.heap.size w w' := by
  obtain ⟨i0, hi0, hz0, hz1, hz2⟩ := info_parts info_int
  have hbytes : i0.bytes * n ≤ 281474976710656 := by rw [hz2]; omega
  have HM := mulOne n w h8
  have Hc := Lib.hid hc
  have HI := Lib.hid hi0
  have hnn : (0 : Int) ≤ (n : Int) := Int.natCast_nonneg _
  clear hc
  by_cases hn : 1 ≤ n
  · have hd0 : decide ((n : Int) < 0) = false := by simp
    have hd1 : decide ((9223372036854775807 : Int) < n) = false := by simp; omega
    go_enter Try.func117, Try.ntmps117
    go_wp2_with fail
    refine HM.mono ?_
    rintro e w1 ⟨rfl, rfl⟩
    have hsz1 : (Try.prog.info? 3).map (·.size) = some 1 := by kernel_rfl
    have hmn : ([Value.int .i64 x]).length = Nat.min 1 n := (Nat.min_eq_left hn).symm
    have hfit : 0 + ([Value.int .i64 x]).length ≤ ((part x 0 n).map (Value.int .i64)).length := by simp [part_len]; omega
    have hone : ∀ y ∈ [Value.int .i64 x], y.oneCell' = true := fun y hy => by simp only [List.mem_singleton] at hy; subst hy; rfl
    go_wp2_with (first
      | (at_make; refine wpList_make_full _ rfl _ _ 29 rfl w.heap.size 3 i0 (.int .i64 0) 1 Try.underlying29 HI.out hz0 hz1 .i64 .i64 _ _ n rfl rfl rfl rfl hbytes (by unfold maxLen; omega) (Nat.le_refl _) ?_; intro w2 hown2 hgrow2; have hk2 := Lib.hid (made_part (x := x) hown2); have hb2 := below_grown hgrow2; have hc2 := Lib.hid ((hb2.cell (p := ⟨b, 0, none⟩) hb).trans Hc.out); clear hown2 hgrow2)
      | (refine wpList_copy_splice rfl (.tmp 31) (.tmp 32) 29 29 rfl 3 Try.underlying29 hsz1 (some ⟨w.heap.size, 0, none⟩) (some ⟨b, 0, none⟩) n n 1 1 rfl rfl w.heap.size 0 ((part x 0 n).map (Value.int .i64)) 3 hk2.out [Value.int .i64 x] hmn (fun _ => ⟨rfl, _, rfl, one_src hc2.out⟩) hfit hone w.heap.size w hb2 (Nat.le_refl _) ?_; intro w3 hg3 hb3))
    have hg3' := hg3.out
    rw [part_one hn] at hg3'
    clear hmn hfit hone hk2 hc2 hb2
    have HG3 : Hid (w3.heap[w.heap.size]? = some (.cells ((part x 1 n).map (Value.int .i64)).toArray 3 (0, 0))) := hg3'
    clear hg3 hg3'
    go_loopw [8] (fun s wr => ∃ k : Nat, 1 ≤ k ∧ k ≤ n ∧ s = .int .i64 k ∧ Hid (wr.heap[w.heap.size]? = some (.cells ((part x k n).map (Value.int .i64)).toArray 3 (0, 0))) ∧ Below w.heap.size w wr) (fun s _ => n - (intOf s).toNat)
    case atStart => exact ⟨1, Nat.le_refl _, hn, rfl, HG3, hb3⟩
    case round =>
      clear HG3 hb3
      obtain ⟨k, hk1, hk, rfl, HG, hbel⟩ := hrel
      by_cases hkl : k < n
      · have i1 : (0 : Int) ≤ (k : Int) := Int.natCast_nonneg _
        have i2 : (k : Int) ≤ (n : Int) := by omega
        obtain ⟨m, hm⟩ : ∃ m, m = Nat.min k (n - k) := ⟨_, rfl⟩
        have hm' : m = min k (n - k) := hm
        have hmn : (List.replicate m (Value.int .i64 x)).length = Nat.min k (n - k) := by rw [List.length_replicate, hm]
        have hfit : k + (List.replicate m (Value.int .i64 x)).length ≤ ((part x k n).map (Value.int .i64)).length := by rw [List.length_replicate, List.length_map, part_len hk]; omega
        have hone : ∀ y ∈ List.replicate m (Value.int .i64 x), y.oneCell' = true := fun y hy => by rw [(List.mem_replicate.1 hy).2]; rfl
        have hsp : Hid (splice ((part x k n).map (Value.int .i64)) k (List.replicate m (Value.int .i64 x)) = (part x (k + m) n).map (Value.int .i64)) := by
          unfold Hid splice
          rw [List.length_replicate]
          exact part_splice (by omega)
        have hbq := hbel.drew
        have HGd : Hid (wr.drew.heap[w.heap.size]? = some (.cells ((part x k n).map (Value.int .i64)).toArray 3 (0, 0))) := HG
        have hsrc : Hid (∀ j v, (List.replicate m (Value.int .i64 x))[j]? = some v → wr.drew.cell? ((Addr.mk w.heap.size 0 none).add j) = some v) := fun j v hv => by
          have hj := (List.getElem?_eq_some_iff.1 hv).1
          rw [List.length_replicate] at hj
          rw [List.getElem?_replicate, if_pos hj] at hv
          have e : (Addr.mk w.heap.size 0 none).add j = ⟨w.heap.size, j, none⟩ := by
            unfold Addr.add
            split
            · rename_i h; subst h; rfl
            · simp
          rw [e, cell_of_row _ _ _ _ _ _ HGd.out, List.getElem?_toArray, List.getElem?_map, part_get (by omega)]
          exact hv
        have hne : ¬ n = k := by omega
        clear hm hm'
        go_wp2_with fail
        go_region_law (refine step_copy_splice rfl (.tmp 41) (.tmp 44) 29 29 rfl 3 Try.underlying29 hsz1 (some ⟨w.heap.size, k, none⟩) (some ⟨w.heap.size, 0, none⟩) (n - k) (n - k) k n ?g4 ?g5 w.heap.size k ((part x k n).map (Value.int .i64)) 3 HGd.out (List.replicate m (Value.int .i64 x)) hmn (fun _ => ⟨rfl, _, rfl, hsrc.out⟩) hfit hone w.heap.size w hbq (Nat.le_refl _) ?g13; (case g4 => go_simp); (case g5 => go_simp); intro w5 hg5 hb5)
        rw [hsp.out] at hg5
        have hmk : 1 ≤ m := by
          have := hmn
          rw [List.length_replicate] at this
          have h2 : m = min k (n - k) := this
          omega
        have hmk2 : k + m ≤ n := by
          have := hfit
          rw [List.length_replicate, List.length_map, part_len hk] at this
          exact this
        have HW : Hid (IntKind.i64.wrap ((k : Int) + (Nat.min k (n - k) : Nat)) = ((k + m : Nat) : Int)) := by
          have e : Nat.min k (n - k) = m := by rw [← hmn, List.length_replicate]
          unfold Hid
          rw [e, IntWalk.i64_in _ (by omega)]
          omega
        clear hsp hsrc HGd hmn hfit hone
        go_simp
        go_wp2
        go_roundw
        case rel => exact ⟨k + m, by omega, hmk2, by rw [HW.out], hg5, hb5⟩
        case measure => rw [HW.out]; simp [intOf]; omega
      · have hke : k = n := by omega
        subst hke
        have HO := HG.out
        rw [part_full] at HO
        have hown := own_of_whole (base := w.heap.size) (n := k) HO (Nat.le_refl _) (by simp) (by unfold maxLen; omega)
        clear HO HG
        have Hown := Lib.hid hown
        clear hown
        go_wp2_with fail
        go_ret
        exact ⟨_, rfl, Hown.out, hbel⟩
  · obtain rfl : n = 0 := by omega
    go_enter Try.func117, Try.ntmps117
    go_wp2_with fail
    refine HM.mono ?_
    rintro e w1 ⟨rfl, rfl⟩
    have hsz1 : (Try.prog.info? 3).map (·.size) = some 1 := by kernel_rfl
    go_wp2_with (first
      | (at_make; refine wpList_make_full _ rfl _ _ 29 rfl w.heap.size 3 i0 (.int .i64 0) 1 Try.underlying29 HI.out hz0 hz1 .i64 .i64 _ _ 0 rfl rfl rfl rfl hbytes (by unfold maxLen; omega) (Nat.le_refl _) ?_; intro w2 hown2 hgrow2; have hb2 := below_grown hgrow2)
      | (refine wpList_copy_nothing rfl (.tmp 31) (.tmp 32) 29 29 rfl 3 Try.underlying29 hsz1 (some ⟨w.heap.size, 0, none⟩) (some ⟨b, 0, none⟩) 0 0 1 1 rfl rfl rfl ?_))
    have Hown := Lib.hid hown2
    clear hown2
    go_loopw [8] (fun s wr => s = .int .i64 0 ∧ wr = w2) (fun _ _ => 0)
    case atStart => exact ⟨rfl, rfl⟩
    case round =>
      obtain ⟨rfl, rfl⟩ := hrel
      go_wp2_with fail
      go_ret
      have HO := Hown.out
      rw [made_zero] at HO
      exact ⟨_, rfl, HO, hb2⟩

end Go.Proofs.Ytcjejcbikgcnbaa
