/- Parts of the proof, laid into one text: BatV. -/
import Derived.Test.YtpnongeibpkbhaaGreatDoorD1

/- package batten: Valid. Written by gen_batv.py. -/
namespace Go.Proofs.YtpnongeibpkbhaaGreatDoor
open Go.RowKit Go.Shelf

/-- A right line set. -/
def setB (s : SetT) : Bool := nameB s.name && (betweenB s.depth 0 1048576 && (decide (0 ≤ s.low) && (decide (s.low ≤ s.high) && (decide (s.high ≤ 1048576) && (betweenB s.len 1000 1048576 && ((s.len % 1000 == 0) && (linesB s.lines s.len && (betweenB s.pipe 0 1048576 && (betweenB s.arbor 0 1048576 && (betweenB s.purch 1 2 && (betweenB s.most 1 67108864 && (betweenB s.brake 0 67108864 && (itemsB s.items s.len && (bricksB s.bricks))))))))))))))
structure SetNames (s : SetT) : Prop where
  name : s.name.size ≤ maxLen
  items : ∀ x ∈ s.items, x.name.size ≤ maxLen
  bricks : ∀ x ∈ s.bricks, x.name.size ≤ maxLen
set_option maxRecDepth 100000 in
set_option maxHeartbeats 8000000 in
theorem batValid (v : Value) (s : SetT) (w : World) (hv : SetAt w w.heap.size v s) (hn : SetNames s) :
    Calls Tryz.prog 26 #[v] w fun e w' => e = .returned (.bool (setB s)) ∧ Below w.heap.size w w' := by
  obtain ⟨Al, cl, Ai, ci, Ab, cb, rfl, hL, hI, hB⟩ := hv
  have hnm := fun W => decIsName s.name hn.name W
  have HLi := Lib.hid fun W (hb : Below w.heap.size w W) => batLines _ s.lines s.len W.heap.size W ((RowAt.below hL hb (Nat.le_refl _)).mono hb.size)
  have HIt := Lib.hid fun hlen W (hb : Below w.heap.size w W) => batItems _ s.items s.len W ((hI.below hb (Nat.le_refl _)).mono hb.size) hn.items hlen
  have HBr := Lib.hid fun W (hb : Below w.heap.size w W) => batBricks _ s.bricks W ((hB.below hb (Nat.le_refl _)).mono hb.size) hn.bricks
  have HV : Hid (setB s = (nameB s.name && (betweenB s.depth 0 1048576 && (decide (0 ≤ s.low) && (decide (s.low ≤ s.high) && (decide (s.high ≤ 1048576) && (betweenB s.len 1000 1048576 && ((s.len % 1000 == 0) && (linesB s.lines s.len && (betweenB s.pipe 0 1048576 && (betweenB s.arbor 0 1048576 && (betweenB s.purch 1 2 && (betweenB s.most 1 67108864 && (betweenB s.brake 0 67108864 && (itemsB s.items s.len && (bricksB s.bricks)))))))))))))))) := rfl
  have HD := Lib.hid (Blk.new w 26 #[.string s.name, .int .i64 s.depth, .int .i64 s.low, .int .i64 s.high, .int .i64 s.len, .slice Al s.lines.length cl, .int .i64 s.pipe, .int .i64 s.arbor, .int .i64 s.purch, .int .i64 s.most, .int .i64 s.brake, .slice Ai s.items.length ci, .slice Ab s.bricks.length cb])
  have HB1 := Lib.hid ((Below.refl _ w).alloc (Nat.le_refl _) (.cells #[.string s.name, .int .i64 s.depth, .int .i64 s.low, .int .i64 s.high, .int .i64 s.len, .slice Al s.lines.length cl, .int .i64 s.pipe, .int .i64 s.arbor, .int .i64 s.purch, .int .i64 s.most, .int .i64 s.brake, .slice Ai s.items.length ci, .slice Ab s.bricks.length cb] 26))
  clear hL hI hB hn
  unfold setVal
  rcases Bool.eq_false_or_eq_true (nameB s.name) with h0 | h0
  rotate_left
  · go_enter Tryz.func26, Tryz.ntmps26
    go_wp2_with (first | (go_at_call 46; refine (hnm _).mono ?_; rintro e w' ⟨rfl, rfl⟩; rw [h0]) | (go_at_call 47; refine (batBetween _ _ _ _).mono ?_; rintro e w' ⟨rfl, rfl⟩; skip))
    go_ret
    exact ⟨ret_bool (by rw [HV.out, h0]; rfl), HB1.out⟩
  rcases Bool.eq_false_or_eq_true (betweenB s.depth 0 1048576) with h1 | h1
  rotate_left
  · go_enter Tryz.func26, Tryz.ntmps26
    go_wp2_with (first | (go_at_call 46; refine (hnm _).mono ?_; rintro e w' ⟨rfl, rfl⟩; rw [h0]) | (go_at_call 47; refine (batBetween _ _ _ _).mono ?_; rintro e w' ⟨rfl, rfl⟩; try rw [h1]))
    go_ret
    exact ⟨ret_bool (by rw [HV.out, h0, h1]; rfl), HB1.out⟩
  rcases Bool.eq_false_or_eq_true (decide (0 ≤ s.low)) with h2 | h2
  rotate_left
  · go_enter Tryz.func26, Tryz.ntmps26
    go_wp2_with (first | (go_at_call 46; refine (hnm _).mono ?_; rintro e w' ⟨rfl, rfl⟩; rw [h0]) | (go_at_call 47; refine (batBetween _ _ _ _).mono ?_; rintro e w' ⟨rfl, rfl⟩; try rw [h1]))
    go_ret
    exact ⟨ret_bool (by rw [HV.out, h0, h1, h2]; rfl), HB1.out⟩
  rcases Bool.eq_false_or_eq_true (decide (s.low ≤ s.high)) with h3 | h3
  rotate_left
  · go_enter Tryz.func26, Tryz.ntmps26
    go_wp2_with (first | (go_at_call 46; refine (hnm _).mono ?_; rintro e w' ⟨rfl, rfl⟩; rw [h0]) | (go_at_call 47; refine (batBetween _ _ _ _).mono ?_; rintro e w' ⟨rfl, rfl⟩; try rw [h1]))
    go_ret
    exact ⟨ret_bool (by rw [HV.out, h0, h1, h2, h3]; rfl), HB1.out⟩
  rcases Bool.eq_false_or_eq_true (decide (s.high ≤ 1048576)) with h4 | h4
  rotate_left
  · go_enter Tryz.func26, Tryz.ntmps26
    go_wp2_with (first | (go_at_call 46; refine (hnm _).mono ?_; rintro e w' ⟨rfl, rfl⟩; rw [h0]) | (go_at_call 47; refine (batBetween _ _ _ _).mono ?_; rintro e w' ⟨rfl, rfl⟩; try rw [h1]))
    go_ret
    exact ⟨ret_bool (by rw [HV.out, h0, h1, h2, h3, h4]; rfl), HB1.out⟩
  rcases Bool.eq_false_or_eq_true (betweenB s.len 1000 1048576) with h5 | h5
  rotate_left
  · go_enter Tryz.func26, Tryz.ntmps26
    go_wp2_with (first | (go_at_call 46; refine (hnm _).mono ?_; rintro e w' ⟨rfl, rfl⟩; rw [h0]) | (go_at_call 47; refine (batBetween _ _ _ _).mono ?_; rintro e w' ⟨rfl, rfl⟩; try rw [h1]; try rw [h5]))
    go_ret
    exact ⟨ret_bool (by rw [HV.out, h0, h1, h2, h3, h4, h5]; rfl), HB1.out⟩
  have hlen := between_bd h5
  have htm : s.len.tmod 1000 = s.len % 1000 := Int.tmod_eq_emod_of_nonneg (by omega)
  have vr : IntKind.i64.wrap (s.len % 1000) = s.len % 1000 := IntWalk.i64_in _ (by omega)
  rcases Bool.eq_false_or_eq_true ((s.len % 1000 == 0)) with h6 | h6
  rotate_left
  · go_enter Tryz.func26, Tryz.ntmps26
    go_wp2_with (first | (go_at_call 46; refine (hnm _).mono ?_; rintro e w' ⟨rfl, rfl⟩; rw [h0]) | (go_at_call 47; refine (batBetween _ _ _ _).mono ?_; rintro e w' ⟨rfl, rfl⟩; try rw [h1]; try rw [h5]))
    go_ret
    exact ⟨ret_bool (by rw [HV.out, h0, h1, h2, h3, h4, h5, h6]; rfl), HB1.out⟩
  rcases Bool.eq_false_or_eq_true (linesB s.lines s.len) with h7 | h7
  rotate_left
  · go_enter Tryz.func26, Tryz.ntmps26
    go_wp2_with (first | (go_at_call 46; refine (hnm _).mono ?_; rintro e w' ⟨rfl, rfl⟩; rw [h0]) | (go_at_call 47; refine (batBetween _ _ _ _).mono ?_; rintro e w' ⟨rfl, rfl⟩; try rw [h1]; try rw [h5]) | (go_at_call 48; refine (HLi.out _ HB1.out).mono ?_; rintro e w' ⟨rfl, nq, rfl⟩; rw [h7]; have hq := below_drewN HB1.out nq; have z0 := (HD.out.drewN nq).cell 0; have z1 := (HD.out.drewN nq).cell 1; have z2 := (HD.out.drewN nq).cell 2; have z3 := (HD.out.drewN nq).cell 3; have z4 := (HD.out.drewN nq).cell 4; have z5 := (HD.out.drewN nq).cell 5; have z6 := (HD.out.drewN nq).cell 6; have z7 := (HD.out.drewN nq).cell 7; have z8 := (HD.out.drewN nq).cell 8; have z9 := (HD.out.drewN nq).cell 9; have z10 := (HD.out.drewN nq).cell 10; have z11 := (HD.out.drewN nq).cell 11; have z12 := (HD.out.drewN nq).cell 12; simp only [List.getElem?_toArray, List.getElem?_cons_succ, List.getElem?_cons_zero] at z0 z1 z2 z3 z4 z5 z6 z7 z8 z9 z10 z11 z12))
    go_ret
    exact ⟨ret_bool (by rw [HV.out, h0, h1, h2, h3, h4, h5, h6, h7]; rfl), hq⟩
  rcases Bool.eq_false_or_eq_true (betweenB s.pipe 0 1048576) with h8 | h8
  rotate_left
  · go_enter Tryz.func26, Tryz.ntmps26
    go_wp2_with (first | (go_at_call 46; refine (hnm _).mono ?_; rintro e w' ⟨rfl, rfl⟩; rw [h0]) | (go_at_call 47; refine (batBetween _ _ _ _).mono ?_; rintro e w' ⟨rfl, rfl⟩; try rw [h1]; try rw [h5]; try rw [h8]) | (go_at_call 48; refine (HLi.out _ HB1.out).mono ?_; rintro e w' ⟨rfl, nq, rfl⟩; rw [h7]; have hq := below_drewN HB1.out nq; have z0 := (HD.out.drewN nq).cell 0; have z1 := (HD.out.drewN nq).cell 1; have z2 := (HD.out.drewN nq).cell 2; have z3 := (HD.out.drewN nq).cell 3; have z4 := (HD.out.drewN nq).cell 4; have z5 := (HD.out.drewN nq).cell 5; have z6 := (HD.out.drewN nq).cell 6; have z7 := (HD.out.drewN nq).cell 7; have z8 := (HD.out.drewN nq).cell 8; have z9 := (HD.out.drewN nq).cell 9; have z10 := (HD.out.drewN nq).cell 10; have z11 := (HD.out.drewN nq).cell 11; have z12 := (HD.out.drewN nq).cell 12; simp only [List.getElem?_toArray, List.getElem?_cons_succ, List.getElem?_cons_zero] at z0 z1 z2 z3 z4 z5 z6 z7 z8 z9 z10 z11 z12))
    go_ret
    exact ⟨ret_bool (by rw [HV.out, h0, h1, h2, h3, h4, h5, h6, h7, h8]; rfl), hq⟩
  rcases Bool.eq_false_or_eq_true (betweenB s.arbor 0 1048576) with h9 | h9
  rotate_left
  · go_enter Tryz.func26, Tryz.ntmps26
    go_wp2_with (first | (go_at_call 46; refine (hnm _).mono ?_; rintro e w' ⟨rfl, rfl⟩; rw [h0]) | (go_at_call 47; refine (batBetween _ _ _ _).mono ?_; rintro e w' ⟨rfl, rfl⟩; try rw [h1]; try rw [h5]; try rw [h8]; try rw [h9]) | (go_at_call 48; refine (HLi.out _ HB1.out).mono ?_; rintro e w' ⟨rfl, nq, rfl⟩; rw [h7]; have hq := below_drewN HB1.out nq; have z0 := (HD.out.drewN nq).cell 0; have z1 := (HD.out.drewN nq).cell 1; have z2 := (HD.out.drewN nq).cell 2; have z3 := (HD.out.drewN nq).cell 3; have z4 := (HD.out.drewN nq).cell 4; have z5 := (HD.out.drewN nq).cell 5; have z6 := (HD.out.drewN nq).cell 6; have z7 := (HD.out.drewN nq).cell 7; have z8 := (HD.out.drewN nq).cell 8; have z9 := (HD.out.drewN nq).cell 9; have z10 := (HD.out.drewN nq).cell 10; have z11 := (HD.out.drewN nq).cell 11; have z12 := (HD.out.drewN nq).cell 12; simp only [List.getElem?_toArray, List.getElem?_cons_succ, List.getElem?_cons_zero] at z0 z1 z2 z3 z4 z5 z6 z7 z8 z9 z10 z11 z12))
    go_ret
    exact ⟨ret_bool (by rw [HV.out, h0, h1, h2, h3, h4, h5, h6, h7, h8, h9]; rfl), hq⟩
  rcases Bool.eq_false_or_eq_true (betweenB s.purch 1 2) with h10 | h10
  rotate_left
  · go_enter Tryz.func26, Tryz.ntmps26
    go_wp2_with (first | (go_at_call 46; refine (hnm _).mono ?_; rintro e w' ⟨rfl, rfl⟩; rw [h0]) | (go_at_call 47; refine (batBetween _ _ _ _).mono ?_; rintro e w' ⟨rfl, rfl⟩; try rw [h1]; try rw [h5]; try rw [h8]; try rw [h9]; try rw [h10]) | (go_at_call 48; refine (HLi.out _ HB1.out).mono ?_; rintro e w' ⟨rfl, nq, rfl⟩; rw [h7]; have hq := below_drewN HB1.out nq; have z0 := (HD.out.drewN nq).cell 0; have z1 := (HD.out.drewN nq).cell 1; have z2 := (HD.out.drewN nq).cell 2; have z3 := (HD.out.drewN nq).cell 3; have z4 := (HD.out.drewN nq).cell 4; have z5 := (HD.out.drewN nq).cell 5; have z6 := (HD.out.drewN nq).cell 6; have z7 := (HD.out.drewN nq).cell 7; have z8 := (HD.out.drewN nq).cell 8; have z9 := (HD.out.drewN nq).cell 9; have z10 := (HD.out.drewN nq).cell 10; have z11 := (HD.out.drewN nq).cell 11; have z12 := (HD.out.drewN nq).cell 12; simp only [List.getElem?_toArray, List.getElem?_cons_succ, List.getElem?_cons_zero] at z0 z1 z2 z3 z4 z5 z6 z7 z8 z9 z10 z11 z12))
    go_ret
    exact ⟨ret_bool (by rw [HV.out, h0, h1, h2, h3, h4, h5, h6, h7, h8, h9, h10]; rfl), hq⟩
  rcases Bool.eq_false_or_eq_true (betweenB s.most 1 67108864) with h11 | h11
  rotate_left
  · go_enter Tryz.func26, Tryz.ntmps26
    go_wp2_with (first | (go_at_call 46; refine (hnm _).mono ?_; rintro e w' ⟨rfl, rfl⟩; rw [h0]) | (go_at_call 47; refine (batBetween _ _ _ _).mono ?_; rintro e w' ⟨rfl, rfl⟩; try rw [h1]; try rw [h5]; try rw [h8]; try rw [h9]; try rw [h10]; try rw [h11]) | (go_at_call 48; refine (HLi.out _ HB1.out).mono ?_; rintro e w' ⟨rfl, nq, rfl⟩; rw [h7]; have hq := below_drewN HB1.out nq; have z0 := (HD.out.drewN nq).cell 0; have z1 := (HD.out.drewN nq).cell 1; have z2 := (HD.out.drewN nq).cell 2; have z3 := (HD.out.drewN nq).cell 3; have z4 := (HD.out.drewN nq).cell 4; have z5 := (HD.out.drewN nq).cell 5; have z6 := (HD.out.drewN nq).cell 6; have z7 := (HD.out.drewN nq).cell 7; have z8 := (HD.out.drewN nq).cell 8; have z9 := (HD.out.drewN nq).cell 9; have z10 := (HD.out.drewN nq).cell 10; have z11 := (HD.out.drewN nq).cell 11; have z12 := (HD.out.drewN nq).cell 12; simp only [List.getElem?_toArray, List.getElem?_cons_succ, List.getElem?_cons_zero] at z0 z1 z2 z3 z4 z5 z6 z7 z8 z9 z10 z11 z12))
    go_ret
    exact ⟨ret_bool (by rw [HV.out, h0, h1, h2, h3, h4, h5, h6, h7, h8, h9, h10, h11]; rfl), hq⟩
  rcases Bool.eq_false_or_eq_true (betweenB s.brake 0 67108864) with h12 | h12
  rotate_left
  · go_enter Tryz.func26, Tryz.ntmps26
    go_wp2_with (first | (go_at_call 46; refine (hnm _).mono ?_; rintro e w' ⟨rfl, rfl⟩; rw [h0]) | (go_at_call 47; refine (batBetween _ _ _ _).mono ?_; rintro e w' ⟨rfl, rfl⟩; try rw [h1]; try rw [h5]; try rw [h8]; try rw [h9]; try rw [h10]; try rw [h11]; try rw [h12]) | (go_at_call 48; refine (HLi.out _ HB1.out).mono ?_; rintro e w' ⟨rfl, nq, rfl⟩; rw [h7]; have hq := below_drewN HB1.out nq; have z0 := (HD.out.drewN nq).cell 0; have z1 := (HD.out.drewN nq).cell 1; have z2 := (HD.out.drewN nq).cell 2; have z3 := (HD.out.drewN nq).cell 3; have z4 := (HD.out.drewN nq).cell 4; have z5 := (HD.out.drewN nq).cell 5; have z6 := (HD.out.drewN nq).cell 6; have z7 := (HD.out.drewN nq).cell 7; have z8 := (HD.out.drewN nq).cell 8; have z9 := (HD.out.drewN nq).cell 9; have z10 := (HD.out.drewN nq).cell 10; have z11 := (HD.out.drewN nq).cell 11; have z12 := (HD.out.drewN nq).cell 12; simp only [List.getElem?_toArray, List.getElem?_cons_succ, List.getElem?_cons_zero] at z0 z1 z2 z3 z4 z5 z6 z7 z8 z9 z10 z11 z12))
    go_ret
    exact ⟨ret_bool (by rw [HV.out, h0, h1, h2, h3, h4, h5, h6, h7, h8, h9, h10, h11, h12]; rfl), hq⟩
  rcases Bool.eq_false_or_eq_true (itemsB s.items s.len) with h13 | h13
  rotate_left
  · go_enter Tryz.func26, Tryz.ntmps26
    go_wp2_with (first | (go_at_call 46; refine (hnm _).mono ?_; rintro e w' ⟨rfl, rfl⟩; rw [h0]) | (go_at_call 47; refine (batBetween _ _ _ _).mono ?_; rintro e w' ⟨rfl, rfl⟩; try rw [h1]; try rw [h5]; try rw [h8]; try rw [h9]; try rw [h10]; try rw [h11]; try rw [h12]) | (go_at_call 48; refine (HLi.out _ HB1.out).mono ?_; rintro e w' ⟨rfl, nq, rfl⟩; rw [h7]; have hq := below_drewN HB1.out nq; have z0 := (HD.out.drewN nq).cell 0; have z1 := (HD.out.drewN nq).cell 1; have z2 := (HD.out.drewN nq).cell 2; have z3 := (HD.out.drewN nq).cell 3; have z4 := (HD.out.drewN nq).cell 4; have z5 := (HD.out.drewN nq).cell 5; have z6 := (HD.out.drewN nq).cell 6; have z7 := (HD.out.drewN nq).cell 7; have z8 := (HD.out.drewN nq).cell 8; have z9 := (HD.out.drewN nq).cell 9; have z10 := (HD.out.drewN nq).cell 10; have z11 := (HD.out.drewN nq).cell 11; have z12 := (HD.out.drewN nq).cell 12; simp only [List.getElem?_toArray, List.getElem?_cons_succ, List.getElem?_cons_zero] at z0 z1 z2 z3 z4 z5 z6 z7 z8 z9 z10 z11 z12) | (go_at_call 49; refine (HIt.out hlen _ hq).mono ?_; rintro e w3 ⟨rfl, hb3⟩; rw [h13]; have hq3 := hq.trans (hb3.mono hq.size); have hd3 := (below_drewN (Below.refl _ _) nq).trans hb3; have q0 := (HD.out.below hd3 HD.out.lt).cell 0; have q1 := (HD.out.below hd3 HD.out.lt).cell 1; have q2 := (HD.out.below hd3 HD.out.lt).cell 2; have q3 := (HD.out.below hd3 HD.out.lt).cell 3; have q4 := (HD.out.below hd3 HD.out.lt).cell 4; have q5 := (HD.out.below hd3 HD.out.lt).cell 5; have q6 := (HD.out.below hd3 HD.out.lt).cell 6; have q7 := (HD.out.below hd3 HD.out.lt).cell 7; have q8 := (HD.out.below hd3 HD.out.lt).cell 8; have q9 := (HD.out.below hd3 HD.out.lt).cell 9; have q10 := (HD.out.below hd3 HD.out.lt).cell 10; have q11 := (HD.out.below hd3 HD.out.lt).cell 11; have q12 := (HD.out.below hd3 HD.out.lt).cell 12; simp only [List.getElem?_toArray, List.getElem?_cons_succ, List.getElem?_cons_zero] at q0 q1 q2 q3 q4 q5 q6 q7 q8 q9 q10 q11 q12))
    go_ret
    exact ⟨ret_bool (by rw [HV.out, h0, h1, h2, h3, h4, h5, h6, h7, h8, h9, h10, h11, h12, h13]; rfl), hq3⟩
  rcases Bool.eq_false_or_eq_true (bricksB s.bricks) with h14 | h14
  rotate_left
  · go_enter Tryz.func26, Tryz.ntmps26
    go_wp2_with (first | (go_at_call 46; refine (hnm _).mono ?_; rintro e w' ⟨rfl, rfl⟩; rw [h0]) | (go_at_call 47; refine (batBetween _ _ _ _).mono ?_; rintro e w' ⟨rfl, rfl⟩; try rw [h1]; try rw [h5]; try rw [h8]; try rw [h9]; try rw [h10]; try rw [h11]; try rw [h12]) | (go_at_call 48; refine (HLi.out _ HB1.out).mono ?_; rintro e w' ⟨rfl, nq, rfl⟩; rw [h7]; have hq := below_drewN HB1.out nq; have z0 := (HD.out.drewN nq).cell 0; have z1 := (HD.out.drewN nq).cell 1; have z2 := (HD.out.drewN nq).cell 2; have z3 := (HD.out.drewN nq).cell 3; have z4 := (HD.out.drewN nq).cell 4; have z5 := (HD.out.drewN nq).cell 5; have z6 := (HD.out.drewN nq).cell 6; have z7 := (HD.out.drewN nq).cell 7; have z8 := (HD.out.drewN nq).cell 8; have z9 := (HD.out.drewN nq).cell 9; have z10 := (HD.out.drewN nq).cell 10; have z11 := (HD.out.drewN nq).cell 11; have z12 := (HD.out.drewN nq).cell 12; simp only [List.getElem?_toArray, List.getElem?_cons_succ, List.getElem?_cons_zero] at z0 z1 z2 z3 z4 z5 z6 z7 z8 z9 z10 z11 z12) | (go_at_call 49; refine (HIt.out hlen _ hq).mono ?_; rintro e w3 ⟨rfl, hb3⟩; rw [h13]; have hq3 := hq.trans (hb3.mono hq.size); have hd3 := (below_drewN (Below.refl _ _) nq).trans hb3; have q0 := (HD.out.below hd3 HD.out.lt).cell 0; have q1 := (HD.out.below hd3 HD.out.lt).cell 1; have q2 := (HD.out.below hd3 HD.out.lt).cell 2; have q3 := (HD.out.below hd3 HD.out.lt).cell 3; have q4 := (HD.out.below hd3 HD.out.lt).cell 4; have q5 := (HD.out.below hd3 HD.out.lt).cell 5; have q6 := (HD.out.below hd3 HD.out.lt).cell 6; have q7 := (HD.out.below hd3 HD.out.lt).cell 7; have q8 := (HD.out.below hd3 HD.out.lt).cell 8; have q9 := (HD.out.below hd3 HD.out.lt).cell 9; have q10 := (HD.out.below hd3 HD.out.lt).cell 10; have q11 := (HD.out.below hd3 HD.out.lt).cell 11; have q12 := (HD.out.below hd3 HD.out.lt).cell 12; simp only [List.getElem?_toArray, List.getElem?_cons_succ, List.getElem?_cons_zero] at q0 q1 q2 q3 q4 q5 q6 q7 q8 q9 q10 q11 q12) | (go_at_call 50; refine (HBr.out _ hq3).mono ?_; rintro e w4 ⟨rfl, hb4⟩; rw [h14]; have hq4 := hq3.trans (hb4.mono hq3.size)))
    go_ret
    exact ⟨ret_bool (by rw [HV.out, h0, h1, h2, h3, h4, h5, h6, h7, h8, h9, h10, h11, h12, h13, h14]; rfl), hq4⟩
  go_enter Tryz.func26, Tryz.ntmps26
  go_wp2_with (first | (go_at_call 46; refine (hnm _).mono ?_; rintro e w' ⟨rfl, rfl⟩; rw [h0]) | (go_at_call 47; refine (batBetween _ _ _ _).mono ?_; rintro e w' ⟨rfl, rfl⟩; try rw [h1]; try rw [h5]; try rw [h8]; try rw [h9]; try rw [h10]; try rw [h11]; try rw [h12]) | (go_at_call 48; refine (HLi.out _ HB1.out).mono ?_; rintro e w' ⟨rfl, nq, rfl⟩; rw [h7]; have hq := below_drewN HB1.out nq; have z0 := (HD.out.drewN nq).cell 0; have z1 := (HD.out.drewN nq).cell 1; have z2 := (HD.out.drewN nq).cell 2; have z3 := (HD.out.drewN nq).cell 3; have z4 := (HD.out.drewN nq).cell 4; have z5 := (HD.out.drewN nq).cell 5; have z6 := (HD.out.drewN nq).cell 6; have z7 := (HD.out.drewN nq).cell 7; have z8 := (HD.out.drewN nq).cell 8; have z9 := (HD.out.drewN nq).cell 9; have z10 := (HD.out.drewN nq).cell 10; have z11 := (HD.out.drewN nq).cell 11; have z12 := (HD.out.drewN nq).cell 12; simp only [List.getElem?_toArray, List.getElem?_cons_succ, List.getElem?_cons_zero] at z0 z1 z2 z3 z4 z5 z6 z7 z8 z9 z10 z11 z12) | (go_at_call 49; refine (HIt.out hlen _ hq).mono ?_; rintro e w3 ⟨rfl, hb3⟩; rw [h13]; have hq3 := hq.trans (hb3.mono hq.size); have hd3 := (below_drewN (Below.refl _ _) nq).trans hb3; have q0 := (HD.out.below hd3 HD.out.lt).cell 0; have q1 := (HD.out.below hd3 HD.out.lt).cell 1; have q2 := (HD.out.below hd3 HD.out.lt).cell 2; have q3 := (HD.out.below hd3 HD.out.lt).cell 3; have q4 := (HD.out.below hd3 HD.out.lt).cell 4; have q5 := (HD.out.below hd3 HD.out.lt).cell 5; have q6 := (HD.out.below hd3 HD.out.lt).cell 6; have q7 := (HD.out.below hd3 HD.out.lt).cell 7; have q8 := (HD.out.below hd3 HD.out.lt).cell 8; have q9 := (HD.out.below hd3 HD.out.lt).cell 9; have q10 := (HD.out.below hd3 HD.out.lt).cell 10; have q11 := (HD.out.below hd3 HD.out.lt).cell 11; have q12 := (HD.out.below hd3 HD.out.lt).cell 12; simp only [List.getElem?_toArray, List.getElem?_cons_succ, List.getElem?_cons_zero] at q0 q1 q2 q3 q4 q5 q6 q7 q8 q9 q10 q11 q12) | (go_at_call 50; refine (HBr.out _ hq3).mono ?_; rintro e w4 ⟨rfl, hb4⟩; rw [h14]; have hq4 := hq3.trans (hb4.mono hq3.size)))
  go_ret
  exact ⟨ret_bool (by rw [HV.out, h0, h1, h2, h3, h4, h5, h6, h7, h8, h9, h10, h11, h12, h13, h14]; rfl), hq4⟩
end Go.Proofs.YtpnongeibpkbhaaGreatDoor
