/- The law BoundsBest: the walk. -/
import Derived.Test.YtcjejcbikgcnbaaRefBest
import Derived.Test.YtcjejcbikgcnbaaLawPath
namespace Go.Proofs.Ytcjejcbikgcnbaa
open Go.RowKit Go.Shelf

theorem Heavy.uniqH {l : List Task} {c p : Int} {L L' : Int} {s s' : Nat} (h : Heavy l c p (2 ^ l.length) L s) (h' : Heavy l c p (2 ^ l.length) L' s') : L = L' ∧ s = s' := h.uniq h'

set_option maxRecDepth 100000 in
set_option maxHeartbeats 4000000 in
theorem lawBoundsBest (v : Value) (l : List Task) (c p : Int) (w : World) (hl : TasksAt w w.heap.size v l) :
    Calls Try.prog 4 #[v, .int .i64 c, .int .i64 p] w fun e w' => e = .returned (.bool true) ∧ Below w.heap.size w w' := by
  have HL := Lib.hid hl
  have hA := lawAwake w
  have HT : ∀ w1, Below w.heap.size w w1 → TasksAt w1 w1.heap.size v l := fun w1 hb => (HL.out.below hb (Nat.le_refl _)).mono hb.size
  have HT := Lib.hid HT
  have hLong := fun w1 hb => lawLong v l w1 (HT.out w1 hb)
  clear hl
  cases hlg : longL l with
  | true =>
    rw [hlg] at hLong
    clear hlg
    go_enter Try.func4, Try.ntmps4
    go_wp2_with (first
      | (go_at_call 16; refine hA.mono ?_; rintro e w1 ⟨rfl, hb1⟩)
      | (go_at_call 17; refine (hLong _ hb1).mono ?_; rintro e w2 ⟨rfl, hb2⟩))
    go_ret
    exact ⟨rfl, hb1.trans (hb2.mono hb1.size)⟩
  | false =>
    rw [hlg] at hLong
    have hW := fun w1 hb => boundsWork v l c p w1 (HT.out w1 hb)
    have hC := fun w1 hb => boundsClique v l c p w1 (HT.out w1 hb)
    have hB := fun w1 hb => boundsBest v l c p w1 (HT.out w1 hb)
    have hG := fun w1 hb => refGiven v l c p w1 (HT.out w1 hb)
    unfold WorkPost at hW
    clear hlg
    go_enter Try.func4, Try.ntmps4
    go_wp2_with (first
      | (go_at_call 16; refine hA.mono ?_; rintro e w1 ⟨rfl, hb1⟩)
      | (go_at_call 17; refine (hLong _ hb1).mono ?_; rintro e w2 ⟨rfl, hb2⟩))
    have hb := hb1.trans (hb2.mono hb1.size)
    clear hb1 hb2 hA hLong
    have hW := hW _ hb
    by_cases hg : givenN l c p = 0
    · rw [hg, if_pos rfl] at hW
      have hG : ∀ w1, Below w.heap.size w w1 → Calls Try.prog 26 #[v, .int .i64 c, .int .i64 p] w1 fun e w' => e = .returned (.int .i64 0) ∧ Below w1.heap.size w1 w' := fun w1 hb => by
        have := hG w1 hb
        rw [hg] at this
        exact this
      have hRW := fun w1 hb => refWork v l c p _ w1 (HT.out w1 hb) hg
      have hRB := fun w1 hb => refBest v l c p w1 hg (HT.out w1 hb)
      have hRT := (givenN_zero hg).1
      have h8 := hRT.len
      have Hg := Lib.hid hg
      have HRT := Lib.hid hRT
      clear hg hRT
      refine hW.mono ?_
      rintro e w3 ⟨rfl, hb3⟩
      have hb := hb.trans (hb3.mono hb.size)
      clear hb3 hW
      generalize workN l c p = W at *
      go_wp2_with fail
      refine (hC _ hb).mono ?_
      rintro e w4 ⟨hb4, hpost⟩
      have hb := hb.trans (hb4.mono hb.size)
      rcases hpost with ⟨hno, _⟩ | ⟨_, K, s, v4, hh, rfl, hown⟩
      · exact absurd Hg.out hno
      have Hs4 : StrsAt w4 w4.heap.size v4 (nmsAt l (memb s l.length)) := RowAt.of_own hown
      have Hh := Lib.hid hh
      clear hC hh hown hb4
      go_wp2_with fail
      refine (hB _ hb).mono ?_
      rintro e w5 ⟨hb5, hpost⟩
      have hb := hb.trans (hb5.mono hb.size)
      rcases hpost with ⟨hno, _⟩ | ⟨_, L, K', y, s', hc, hh', rfl⟩
      · exact absurd Hg.out hno
      obtain ⟨rfl, rfl⟩ := Hh.out.uniqH hh'
      have Hc := Lib.hid hc
      have Hs4 := (Hs4.below hb5 (Nat.le_refl _)).mono hb5.size
      clear hB hh' hc hb5
      go_wp2_with fail
      refine (hG _ hb).mono ?_
      rintro e w6 ⟨rfl, hb6⟩
      have Hs4 := (Hs4.below hb6 (Nat.le_refl _)).mono hb6.size
      have hb := hb.trans (hb6.mono hb.size)
      clear hG hb6
      go_wp2_with fail
      refine (refClique v l c p w6 HRT.out (HT.out _ hb)).mono ?_
      rintro e w7 ⟨hb7, K', s', v7, hh', rfl, hown⟩
      obtain ⟨rfl, rfl⟩ := Hh.out.uniqH hh'
      have Hs4 := (Hs4.below hb7 (Nat.le_refl _)).mono hb7.size
      have hb := hb.trans (hb7.mono hb.size)
      have hu : IntsAt w7 w7.heap.size v7 (ints (memb s l.length)) := RowAt.of_own (show w7.ownsRow w6.heap.size 3 1 v7 (memb s l.length).length ((ints (memb s l.length)).map (Value.int .i64)) from hown)
      have hRW := hRW _ hb
      have hml := memb_len s l.length
      have hx1 : (W == W) = true := by simp
      have hx2 : (K == K) = true := by simp
      clear hh' hb7 hown
      go_wp2_with fail
      refine hRW.mono ?_
      rintro e w8 ⟨rfl, q8, rfl⟩
      have hbq := below_drewN (Below.refl w7.heap.size w7) q8
      have Hs4 := (Hs4.below hbq (Nat.le_refl _)).mono hbq.size
      have hu := (hu.below hbq (Nat.le_refl _)).mono hbq.size
      have hb := hb.trans (hbq.mono hb.size)
      have hN := refNames v v7 l (memb s l.length) _ (HT.out _ hb) hu (fun i hi => (mem_memb.1 hi).1) (by omega)
      clear hRW hu hbq
      go_wp2_with fail
      refine hN.mono ?_
      rintro e w9 ⟨hb9, v9, rfl, hown⟩
      have Hs4 := (Hs4.below hb9 (Nat.le_refl _)).mono hb9.size
      have hb := hb.trans (hb9.mono hb.size)
      have Hs9 : StrsAt w9 w9.heap.size v9 (nmsAt l (memb s l.length)) := RowAt.of_own (n := (memb s l.length).length) hown
      have hE := equalStr _ _ _ _ _ _ Hs4 Hs9
      rw [decide_eq_true rfl] at hE
      clear hN hb9 hown
      go_wp2_with fail
      refine hE.mono ?_
      rintro e w10 ⟨rfl, q, rfl⟩
      have hb := below_drewN hb q
      have hRB := hRB _ hb
      clear hE
      go_wp2_with fail
      refine hRB.mono ?_
      rintro e w11 ⟨hb11, L', K', y', s', hc', hh', rfl⟩
      obtain ⟨rfl, rfl⟩ := Hh.out.uniqH hh'
      obtain ⟨rfl, rfl⟩ := Hc.out.uniqH hc'
      have hb := hb.trans (hb11.mono hb.size)
      clear hRB hb11 hh' hc'
      generalize max3 W L K = M at *
      have hx3 : (M == M) = true := by simp
      go_wp2_with fail
      go_ret
      exact ⟨rfl, hb⟩
    · rw [if_neg hg] at hW
      have Hg := Lib.hid hg
      have hC' : ∀ w1, Below w.heap.size w w1 → Calls Try.prog 24 #[v, .int .i64 c, .int .i64 p] w1 fun e w' => e = .returned (.tuple #[.int .i64 0, .slice none 0 0, .int .i64 (givenN l c p)]) ∧ Below w1.heap.size w1 w' := fun w1 hb => (hC w1 hb).mono fun e w' h => by
        obtain ⟨hb2, ⟨_, he⟩ | ⟨hz, _⟩⟩ := h
        · exact ⟨he, hb2⟩
        · exact absurd hz Hg.out
      have hB' : ∀ w1, Below w.heap.size w w1 → Calls Try.prog 25 #[v, .int .i64 c, .int .i64 p] w1 fun e w' => e = .returned (.tuple #[.int .i64 0, .int .i64 (givenN l c p)]) ∧ Below w1.heap.size w1 w' := fun w1 hb => (hB w1 hb).mono fun e w' h => by
        obtain ⟨hb2, ⟨_, he⟩ | ⟨hz, _⟩⟩ := h
        · exact ⟨he, hb2⟩
        · exact absurd hz Hg.out
      clear hC hB hg
      generalize givenN l c p = x at *
      have hx0 : (x == x) = true := by simp
      have hx1 : (x != 0) = true := by simpa using Hg.out
      refine hW.mono ?_
      rintro e w3 ⟨rfl, hb3⟩
      have hb := hb.trans (hb3.mono hb.size)
      clear hb3 hW
      go_wp2_with fail
      refine (hC' _ hb).mono ?_
      rintro e w4 ⟨rfl, hb4⟩
      have hb := hb.trans (hb4.mono hb.size)
      clear hb4 hC'
      go_wp2_with fail
      refine (hB' _ hb).mono ?_
      rintro e w5 ⟨rfl, hb5⟩
      have hb := hb.trans (hb5.mono hb.size)
      clear hb5 hB'
      go_wp2_with fail
      refine (hG _ hb).mono ?_
      rintro e w6 ⟨rfl, hb6⟩
      have hb := hb.trans (hb6.mono hb.size)
      clear hb6 hG
      go_wp2_with fail
      go_ret
      exact ⟨rfl, hb⟩

end Go.Proofs.Ytcjejcbikgcnbaa
