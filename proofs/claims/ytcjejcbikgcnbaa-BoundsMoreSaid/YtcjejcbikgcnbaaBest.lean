/- bounds.Best. -/
import Derived.Test.YtcjejcbikgcnbaaCliqueW
namespace Go.Proofs.Ytcjejcbikgcnbaa
open Go.RowKit Go.Shelf

def max3 (a b c : Int) : Int := if (if a < b then b else a) < c then c else (if a < b then b else a)
def BestPost (l : List Task) (c p : Int) (w : World) (e : Ending) (w' : World) : Prop :=
  Below w.heap.size w w' ∧ (givenN l c p ≠ 0 ∧ e = .returned (.tuple #[.int .i64 0, .int .i64 (givenN l c p)]) ∨
    givenN l c p = 0 ∧ ∃ (L K : Int) (y : List Nat) (s : Nat), Covers l [l.length] L y ∧ Heavy l c p (2 ^ l.length) K s ∧ e = .returned (.tuple #[.int .i64 (max3 (workN l c p) L K), .int .i64 0]))

set_option maxRecDepth 100000 in
set_option maxHeartbeats 4000000 in
theorem boundsBest (v : Value) (l : List Task) (c p : Int) (w : World) (hl : TasksAt w w.heap.size v l) :
    Calls Try.prog 25 #[v, .int .i64 c, .int .i64 p] w (BestPost l c p w) := by
  have hW := boundsWork v l c p w hl
  have HP : ∀ w1, Below w.heap.size w w1 → Calls Try.prog 18 #[v] w1 (PathPost l w1) := fun w1 hb => boundsPath v l w1 ((hl.below hb (Nat.le_refl _)).mono hb.size)
  have HC : ∀ w1, Below w.heap.size w w1 → Calls Try.prog 24 #[v, .int .i64 c, .int .i64 p] w1 (CliquePost l c p w1) := fun w1 hb => boundsClique v l c p w1 ((hl.below hb (Nat.le_refl _)).mono hb.size)
  clear hl
  by_cases hg : givenN l c p = 0
  · have hRT := (givenN_zero hg).1
    have hr := (right_iff l).2 hRT
    unfold WorkPost at hW
    rw [hg, if_pos rfl] at hW
    have Hg := Lib.hid hg
    have HP' : ∀ w1, Below w.heap.size w w1 → Calls Try.prog 18 #[v] w1 fun e w2 => ∃ L y v2, e = .returned (.tuple #[.int .i64 L, v2, .int .i64 0]) ∧ Hid (Covers l [l.length] L y) ∧ Below w.heap.size w w2 := fun w1 hb => (HP w1 hb).mono fun e w2 h => by
      obtain ⟨hb2, ⟨hno, _⟩ | ⟨_, L, y, v2, hc, rfl, _⟩⟩ := h
      · rw [hr] at hno; cases hno
      · exact ⟨L, y, v2, rfl, hc, hb.trans (hb2.mono hb.size)⟩
    have HC' : ∀ w1, Below w.heap.size w w1 → Calls Try.prog 24 #[v, .int .i64 c, .int .i64 p] w1 fun e w2 => ∃ K s v2, e = .returned (.tuple #[.int .i64 K, v2, .int .i64 0]) ∧ Hid (Heavy l c p (2 ^ l.length) K s) ∧ Below w.heap.size w w2 := fun w1 hb => (HC w1 hb).mono fun e w2 h => by
      obtain ⟨hb2, ⟨hno, _⟩ | ⟨_, L, s, v2, hc, rfl, _⟩⟩ := h
      · exact absurd Hg.out hno
      · exact ⟨L, s, v2, rfl, hc, hb.trans (hb2.mono hb.size)⟩
    clear hg hRT hr HP HC
    go_enter Try.func25, Try.ntmps25
    go_wp2_with (first
      | (go_at_call 23; refine hW.mono ?_; rintro e w1 ⟨rfl, hb1⟩)
      | (go_at_call 18; refine (HP' _ hb1).mono ?_; rintro e w2 ⟨L, y, v2, rfl, hc, hb2⟩)
      | (go_at_call 24; refine (HC' _ hb2).mono ?_; rintro e w3 ⟨K, s, v3, rfl, hh, hb3⟩))
    all_goals
      have HX : ∀ x, x = max3 (workN l c p) L K → Ending.returned (.tuple #[.int .i64 x, .int .i64 0]) = .returned (.tuple #[.int .i64 (max3 (workN l c p) L K), .int .i64 0]) := fun x e => by rw [e]
      refine bodyPost_ret (results_tmp2 rfl _ _ _) (by rfl) ?_
      refine ⟨hb3, .inr ⟨Hg.out, L, K, y, s, hc, hh, HX _ ?_⟩⟩
      unfold max3
      repeat' split
      all_goals omega
  · unfold WorkPost at hW
    rw [if_neg hg] at hW
    have Hg := Lib.hid hg
    generalize hx : givenN l c p = x at *
    have hxb : (x == 0) = false := by simpa using Hg.out
    have Hx := Lib.hid hx
    clear hg hx HP HC
    go_enter Try.func25, Try.ntmps25
    go_wp2_with (go_at_call 23; refine hW.mono ?_; rintro e w1 ⟨rfl, hb1⟩)
    refine bodyPost_ret (results_tmp2 rfl _ _ _) (by rfl) ?_
    exact ⟨hb1, .inl ⟨by rw [Hx.out]; exact Hg.out, by rw [Hx.out]; rfl⟩⟩

end Go.Proofs.Ytcjejcbikgcnbaa
