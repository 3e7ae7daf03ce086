/- Parts of the proof, laid into one text: Ex45, Awake45, Large45. -/
import Derived.Test.YtfcfphamecbcgaaGreatG15
import Derived.Test.YtfcfphamecbcgaaGreatG18
import Derived.Test.YtfcfphamecbcgaaGreatG3
import Derived.Test.YtfcfphamecbcgaaGreatG6

/- The example of law 45, plain. -/
namespace Go.Proofs.YtfcfphamecbcgaaGreat
open Go.RowKit Go.Shelf

def ex45 (g : Nat) : List Task := [⟨exA, 10, 1, 0, none, 0, []⟩, ⟨exB, 10, 1, 0, some ⟨g, 0, none⟩, 1, [exA]⟩]
theorem ex45_right (g : Nat) : RightT (ex45 g) := by
  have hn : ∀ s, s = exA ∨ s = exB → nameB s = true := by
    rintro s (rfl | rfl) <;> decide
  have hd : distinct (ex45 g) = true := by
    have : names (ex45 g) = [exA, exB] := rfl
    unfold distinct
    rw [this]
    decide
  have hne : exA ≠ exB := by decide
  refine { len := show 2 ≤ 8 by omega, field := fun i hi => ?_, dist := hd, bef := (befOK_iff _).2 fun t ht => ?_, acyc := ⟨id, fun k hk j hj => ?_⟩ }
  · have hi' : i < 2 := hi
    rcases (show i = 0 ∨ i = 1 by omega) with rfl | rfl <;> simp [fieldB, ex45, hn, betweenB]
  · simp only [ex45, List.mem_cons, List.not_mem_nil, or_false] at ht
    rcases ht with rfl | rfl
    · exact Good.nil _ _
    · exact ⟨by simp, fun s hs => by simp only [List.mem_singleton] at hs; subst hs; exact ⟨by simp [names, ex45], hne⟩⟩
  · rw [getD_rows hk] at hj
    unfold pls at hj
    rw [List.mem_map] at hj
    obtain ⟨s, hs, rfl⟩ := hj
    have hk' : k < 2 := hk
    rcases (show k = 0 ∨ k = 1 by omega) with rfl | rfl
    · simp [ex45] at hs
    · have : s = exA := by simpa [ex45] using hs
      subst this
      have := pl_name hd (show 0 < (ex45 g).length from (show 0 < 2 by omega))
      have e : (ex45 g)[0].name = exA := rfl
      rw [e] at this
      rw [this]
      simp
theorem ex45_valid (g : Nat) : validB (ex45 g) 1 0 = true := by
  unfold validB betweenB
  rw [(right_iff _).2 (ex45_right g)]
  simp
def st45 : List Task := [⟨exA, 6, 1, 0, none, 0, []⟩, ⟨exB, 10, 1, 0, none, 0, [exA]⟩]
theorem ex45_state (g : Nat) : stateN (ex45 g) [0, 10] 4 = st45 := by kernel_rfl
theorem ex45_given (g : Nat) : givenR (ex45 g) [0, 10] 4 = 0 := by
  have h1 : startsN (ex45 g) [0, 10] = 0 := by kernel_rfl
  have h2 : ordB (ex45 g) [0, 10] = true := by kernel_rfl
  unfold givenR
  rw [if_pos ((right_iff _).2 (ex45_right g)), if_pos h1, if_neg (by omega), if_pos h2]
theorem st45_fit : st45.any (tooMuch 1 0) = false := by decide
theorem st45_least : leastN st45 1 0 = (16, [0, 6]) := by
  have hR : RightT st45 := by
    have := (sub_state (s := [0, 10]) (a := 4) (ex45_right 0)).right (ex45_right 0)
    rwa [ex45_state] at this
  have e := least_fur (c := 1) (p := 0) hR ⟨by omega, by omega⟩ st45_fit
  have f : furR st45 1 0 st45.length [] (-1) = (16, [0, 6]) := by kernel_rfl
  exact e.trans f
theorem ex45_err (g : Nat) : errR (ex45 g) 1 0 [0, 10] 4 = 0 := by
  unfold errR
  rw [if_pos (ex45_valid g), if_pos (ex45_given g), ex45_state, st45_fit]
  simp
theorem ex45_again (g : Nat) : againN (ex45 g) 1 0 [0, 10] 4 = [4, 10] := by
  have h : leastN (stateN (ex45 g) [0, 10] 4) 1 0 = (16, [0, 6]) := by rw [ex45_state]; exact st45_least
  unfold againN
  rw [h]
  have e : (List.range (ex45 g).length).map (agI (ex45 g) [0, 10] 4 [0, 6]) = [4, 10] := by kernel_rfl
  exact e
theorem ex45_parts {g : Nat} {ms : List Task} (h : norms ms = stateN (ex45 g) [0, 10] 4) : ∃ m0 m1, ms = [m0, m1] ∧ m0.len = 6 ∧ m1.len = 10 ∧ m1.bef = [exA] := by
  rw [ex45_state] at h
  have hl := norms_len ms
  rw [h] at hl
  match ms, hl with
  | [m0, m1], _ =>
    refine ⟨m0, m1, rfl, ?_, ?_, ?_⟩
    · exact congrArg (fun x : List Task => (x.getD 0 default).len) h
    · exact congrArg (fun x : List Task => (x.getD 1 default).len) h
    · exact congrArg (fun x : List Task => (x.getD 1 default).bef) h

end Go.Proofs.YtfcfphamecbcgaaGreat

/- awake of law 45. -/
namespace Go.Proofs.YtfcfphamecbcgaaGreat
open Go.RowKit Go.Shelf

set_option maxRecDepth 100000 in
set_option maxHeartbeats 1000000 in
theorem lawExample45 (w : World) : Calls Tryz.prog 15 #[] w fun e w' => ∃ v, e = .returned v ∧ TasksAt w' w'.heap.size v (ex45 w.heap.size) ∧ Below w.heap.size w w' := by
  go_enter Tryz.func15, Tryz.ntmps15
  go_wp2
  go_ret
  have hA := World.cell?_alloc_new w #[.string ⟨#[97]⟩] 9 0
  generalize hw1 : w.alloc (.cells #[.string ⟨#[97]⟩] 9) = w1 at *
  have hsz : w1.heap.size = w.heap.size + 1 := by rw [← hw1]; simp
  have hb1 : Below w.heap.size w w1 := by rw [← hw1]; exact (Below.refl _ _).alloc (Nat.le_refl _) _
  refine ⟨_, rfl, ⟨⟨some ⟨w.heap.size + 1, 0, none⟩, 2, rfl, Nat.le_refl _, by unfold maxLen; omega, fun _ => ⟨w.heap.size + 1, 0, rfl, by simp; omega, fun j u hu => ?_⟩⟩, fun t ht => ?_, fun t ht => ?_⟩, hb1.alloc (by omega) _⟩
  · rw [Nat.zero_add, ← hsz, World.cell?_alloc_new]
    rw [List.getElem?_toArray]
    exact hu
  · simp only [ex45, List.mem_cons, List.not_mem_nil, or_false] at ht
    rcases ht with rfl | rfl
    · exact ⟨none, 0, rfl, Nat.le_refl _, Nat.zero_le _, fun h => absurd h (by simp)⟩
    · refine ⟨some ⟨w.heap.size, 0, none⟩, 1, rfl, Nat.le_refl _, by unfold maxLen; omega, fun _ => ⟨w.heap.size, 0, rfl, by simp; omega, fun j u hu => ?_⟩⟩
      rw [Nat.zero_add, World.cell?_alloc_lt _ _ _ (by simp only; omega)]
      cases j with
      | zero => rw [hA]; exact hu
      | succ j => simp at hu
  · simp only [ex45, List.mem_cons, List.not_mem_nil, or_false] at ht
    have hn : ∀ s : ByteArray, s = exA ∨ s = exB → s.size ≤ maxLen := by
      rintro s (rfl | rfl) <;> decide
    rcases ht with rfl | rfl
    · exact ⟨hn _ (by simp), by simp, by simp only; omega, by simp only; omega, by simp only; omega⟩
    · exact ⟨hn _ (by simp), fun s hs => hn s (by simp only [List.mem_singleton] at hs; exact .inl hs), by simp only; omega, by simp only; omega, by simp only; omega⟩

theorem newInts (w : World) (x : List Int) (hx : x.length ≤ 100) : IntsAt (w.alloc (.cells (x.map (Value.int .i64)).toArray 3)) (w.heap.size + 1) (.slice (some ⟨w.heap.size, 0, none⟩) x.length x.length) x :=
  ⟨_, _, rfl, Nat.le_refl _, by unfold maxLen; omega, fun _ => ⟨_, 0, rfl, by omega, fun j u hu => by
    rw [Nat.zero_add, World.cell?_alloc_new, List.getElem?_toArray]
    exact hu⟩⟩
theorem newInts2 (w : World) (x y : Int) : IntsAt (w.alloc (.cells #[.int .i64 x, .int .i64 y] 3)) (w.alloc (.cells #[.int .i64 x, .int .i64 y] 3)).heap.size (.slice (some ⟨w.heap.size, 0, none⟩) 2 2) [x, y] := by
  have := newInts w [x, y] (by simp)
  rw [World.size_alloc]
  exact this
theorem eqOne (v : Value) (w : World) (x : ByteArray) (hv : StrsAt w w.heap.size v [x]) :
    Calls Tryz.prog 16 #[v, .slice (some ⟨w.heap.size, 0, none⟩) 1 1] (w.alloc (.cells #[.string x] 9)) fun e w' => e = .returned (.bool true) ∧ Below w.heap.size w w' := by
  have hb : Below w.heap.size w (w.alloc (.cells #[.string x] 9)) := (Below.refl _ _).alloc (Nat.le_refl _) _
  have hl : StrsAt (w.alloc (.cells #[.string x] 9)) (w.heap.size + 1) (.slice (some ⟨w.heap.size, 0, none⟩) 1 1) [x] :=
    ⟨_, _, rfl, Nat.le_refl _, by unfold maxLen; omega, fun _ => ⟨_, 0, rfl, by omega, fun j u hu => by
      rw [Nat.zero_add, World.cell?_alloc_new, List.getElem?_toArray]
      exact hu⟩⟩
  refine (equalStr _ _ [x] [x] (w.heap.size + 1) _ ((hv.below hb (Nat.le_refl _)).mono (by omega)) hl).mono ?_
  rintro e w' ⟨rfl, n, rfl⟩
  exact ⟨ret_bool (by simp), below_drewN hb n⟩
theorem eqTwo (v : Value) (w : World) (x y : Int) (hv : IntsAt w w.heap.size v [x, y]) :
    Calls Tryz.prog 10 #[v, .slice (some ⟨w.heap.size, 0, none⟩) 2 2] (w.alloc (.cells #[.int .i64 x, .int .i64 y] 3)) fun e w' => e = .returned (.bool true) ∧ Below w.heap.size w w' := by
  have hb : Below w.heap.size w (w.alloc (.cells #[.int .i64 x, .int .i64 y] 3)) := (Below.refl _ _).alloc (Nat.le_refl _) _
  refine (equalInt _ _ [x, y] [x, y] (w.alloc (.cells #[.int .i64 x, .int .i64 y] 3)).heap.size _ ((hv.below hb (Nat.le_refl _)).mono hb.size) (newInts2 w x y)).mono ?_
  rintro e w' ⟨rfl, n, rfl⟩
  exact ⟨ret_bool (by simp), below_drewN hb n⟩

theorem wide2 {x y : Int} (h : 0 ≤ x ∧ x ≤ 100 ∧ 0 ≤ y ∧ y ≤ 100) : Wide [x, y] := fun z hz => by
  simp only [List.mem_cons, List.not_mem_nil, or_false] at hz
  omega

set_option maxRecDepth 100000 in
set_option maxHeartbeats 4000000 in
theorem lawAwake45 (w : World) : Calls Tryz.prog 4 #[] w fun e w' => e = .returned (.bool true) ∧ Below w.heap.size w w' := by
  go_enter Tryz.func4, Tryz.ntmps4
  go_wp2_with fail
  refine (lawExample45 _).mono ?_
  rintro e w1 ⟨v1, rfl, ht1, hb1⟩
  have hS := rpStateTop v1 (.slice (some ⟨w1.heap.size, 0, none⟩) 2 2) _ [0, 10] 4 (w1.alloc (.cells #[.int .i64 0, .int .i64 10] 3)) ((ht1.below ((Below.refl _ _).alloc (Nat.le_refl _) _) (Nat.le_refl _)).mono (by simp)) (newInts2 w1 0 10) (wide2 (by omega))
  have hbx := hb1.alloc hb1.size (.cells #[.int .i64 0, .int .i64 10] 3)
  clear ht1 hb1
  go_wp2_with fail
  refine hS.mono ?_
  rintro e w2 ⟨hb2, hpost⟩
  rcases hpost with ⟨hno, -⟩ | ⟨-, va, ms, rfl, hT, hN⟩
  · exact absurd (ex45_given _) hno
  obtain ⟨m0, m1, rfl, hm0, hm1, hm2⟩ := ex45_parts hN
  have hb := hbx.trans (hb2.mono hbx.size)
  have HT := Lib.hid hT
  have Hm := Lib.hid (And.intro hm0 (And.intro hm1 hm2))
  clear hS hbx hb2 hT hN hm0 hm1 hm2
  go_wp2_with fail
  refine (lawExample45 _).mono ?_
  rintro e w3 ⟨v3, rfl, ht3, hb3⟩
  have hS := rpAgain v3 (.slice (some ⟨w3.heap.size, 0, none⟩) 2 2) _ 1 0 [0, 10] 4 (w3.alloc (.cells #[.int .i64 0, .int .i64 10] 3)) ((ht3.below ((Below.refl _ _).alloc (Nat.le_refl _) _) (Nat.le_refl _)).mono (by simp)) (newInts2 w3 0 10) (wide2 (by omega))
  have hbx := hb3.alloc hb3.size (.cells #[.int .i64 0, .int .i64 10] 3)
  clear ht3 hb3
  go_wp2_with fail
  refine hS.mono ?_
  rintro e w4 ⟨hb4, hpost⟩
  rcases hpost with ⟨hno, -⟩ | ⟨-, vs, rfl, hown⟩
  · exact absurd (ex45_err _) hno
  rw [ex45_again] at hown
  have hs4 : IntsAt w4 w4.heap.size vs [4, 10] := RowAt.of_own hown
  have hbx := hbx.trans (hb4.mono hbx.size)
  have HT := Lib.hid ((HT.out.below hbx (Nat.le_refl _)).mono hbx.size)
  have hb := hb.trans (hbx.mono hb.size)
  have Hs := Lib.hid hs4
  clear hS hb4 hown hbx hs4
  go_wp2_with fail
  refine (lawExample45 _).mono ?_
  rintro e w5 ⟨v5, rfl, ht5, hb5⟩
  have hS := rpEnd v5 (.slice (some ⟨w5.heap.size, 0, none⟩) 2 2) _ 1 0 [0, 10] 4 (w5.alloc (.cells #[.int .i64 0, .int .i64 10] 3)) ((ht5.below ((Below.refl _ _).alloc (Nat.le_refl _) _) (Nat.le_refl _)).mono (by simp)) (newInts2 w5 0 10) (wide2 (by omega))
  have hbx := hb5.alloc hb5.size (.cells #[.int .i64 0, .int .i64 10] 3)
  unfold EndPost at hS
  rw [ex45_err, if_pos rfl, ex45_state, st45_least] at hS
  clear ht5 hb5
  go_wp2_with fail
  refine hS.mono ?_
  rintro e w6 ⟨hb6, rfl⟩
  have hbx := hbx.trans (hb6.mono hbx.size)
  have HT := Lib.hid ((HT.out.below hbx (Nat.le_refl _)).mono hbx.size)
  have Hs := Lib.hid ((Hs.out.below hbx (Nat.le_refl _)).mono hbx.size)
  have hb := hb.trans (hbx.mono hb.size)
  clear hS hb6 hbx
  obtain ⟨A, cap, rfl, hc1, hc2, hcell⟩ := HT.out.open_
  obtain ⟨b, off, rfl, hbb, hct⟩ := hcell 0 (by simp)
  have hq0 := hct 0 (by simp)
  have hq1 := hct 1 (by simp)
  unfold TaskCells at hq0 hq1
  simp only [List.getElem_cons_zero, List.getElem_cons_succ, Nat.zero_mul, Nat.add_zero, Nat.one_mul] at hq0 hq1
  obtain ⟨-, x1, -, -, -⟩ := hq0
  obtain ⟨-, x2, -, -, x3⟩ := hq1
  rw [Hm.out.1] at x1
  rw [Hm.out.2.1] at x2
  rw [Hm.out.2.2] at x3
  have hst : StrsAt w6 w6.heap.size (.slice m1.ba 1 m1.bc) [exA] := by
    have := HT.out.2.1 m1 (by simp)
    unfold Task.bv at this
    rw [Hm.out.2.2] at this
    exact this
  have hE := eqOne _ _ exA hst
  have hc1' : 2 ≤ cap := hc1
  unfold maxLen at hc2
  have HL2 : Hid (([m0, m1] : List Task).length = 2) := rfl
  simp only [List.length_cons, List.length_nil, Nat.zero_add, Nat.reduceAdd] at hc1 ⊢
  clear hcell hct hst
  go_wp2_with fail
  refine hE.mono ?_
  rintro e w7 ⟨rfl, hb7⟩
  have hs7 := (Hs.out.below hb7 (Nat.le_refl _)).mono hb7.size
  have hb := hb.trans (hb7.mono hb.size)
  have hE2 := eqTwo _ _ 4 10 hs7
  clear hE hs7 x1 x2 x3 hb7
  go_wp2_with fail
  refine hE2.mono ?_
  rintro e w8 ⟨rfl, hb8⟩
  go_wp2_with fail
  go_ret
  exact ⟨rfl, hb.trans (hb8.mono hb.size)⟩

end Go.Proofs.YtfcfphamecbcgaaGreat

/- large of law 45. -/
namespace Go.Proofs.YtfcfphamecbcgaaGreat
open Go.RowKit Go.Shelf

theorem entersLargeS : ∀ args w, (callFunc 20 args).run Tryz.prog w = .ok (.enter 20 args) w := enters_of Tryz.func20 (by kernel_rfl) rfl
theorem entersLargeT : ∀ args w, (callFunc 18 args).run Tryz.prog w = .ok (.enter 18 args) w := enters_of Tryz.func18 (by kernel_rfl) rfl

set_option maxHeartbeats 1000000 in
theorem largeStr (s : ByteArray) (w : World) (hs : s.size ≤ maxLen) : Calls Tryz.prog 20 #[.string s] w fun e w' => e = .returned (.bool (longS s)) ∧ Below w.heap.size w w' := by
  unfold maxLen at hs
  by_cases h : 60 < s.size
  · have HV : Hid (longS s = true) := by unfold Hid longS; simp [h]
    have hb : decide ((60 : Int) < s.size) = true := by simp; omega
    go_enter Tryz.func20, Tryz.ntmps20
    go_wp2
    go_ret
    exact ⟨ret_bool HV.out.symm, Below.refl _ _⟩
  · have HV : Hid (longS s = false) := by unfold Hid longS; simp [h]
    have hb : decide ((60 : Int) < s.size) = false := by simp; omega
    go_enter Tryz.func20, Tryz.ntmps20
    go_wp2
    go_ret
    exact ⟨ret_bool HV.out.symm, Below.refl _ _⟩

set_option maxHeartbeats 2000000 in
theorem largeTask (t : Task) (w : World) (ht : t.ok) (hb : StrsAt w w.heap.size t.bv t.bef) : Calls Tryz.prog 18 #[t.val] w fun e w' => e = .returned (.bool (longT t)) ∧ Below w.heap.size w w' := by
  have hn := ht.name
  unfold maxLen at hn
  have hl := hb.open_
  obtain ⟨A0, c0, hA, hc1, hc2, -⟩ := hl
  unfold maxLen at hc2
  have hC : ∀ o, Calls Tryz.prog 19 #[t.bv, .func (.func 20) #[] #[]] (w.alloc o) fun e w' => e = .returned (.bool (t.bef.any longS)) ∧ Below (w.alloc o).heap.size (w.alloc o) w' := fun o =>
    containsFuncStr t.bv t.bef 20 #[] longS entersLargeS (w.alloc o) ((hb.below ((Below.refl _ _).alloc (Nat.le_refl _) o) (Nat.le_refl _)).mono (by simp)) (fun s hs w' _ => largeStr s w' (ht.bef s hs))
  clear hb ht hA
  obtain ⟨name, len, crew, pow, ba, bc, bef⟩ := t
  unfold Task.val
  unfold Task.bv at hC
  simp only at *
  have hbo : ∀ o, Below w.heap.size w (w.alloc o) := fun o => (Below.refl _ _).alloc (Nat.le_refl _) _
  by_cases h1 : 60 < name.size
  · have HV : Hid (longT ⟨name, len, crew, pow, ba, bc, bef⟩ = true) := by unfold Hid longT; simp [h1]
    clear hC
    go_enter Tryz.func18, Tryz.ntmps18
    go_wp2
    go_ret
    exact ⟨ret_bool HV.out.symm, hbo _⟩
  · have h1' : name.size ≤ 60 := by omega
    by_cases h2 : 12 < bef.length
    · have HV : Hid (longT ⟨name, len, crew, pow, ba, bc, bef⟩ = true) := by unfold Hid longT; simp [h2]
      clear hC
      go_enter Tryz.func18, Tryz.ntmps18
      go_wp2
      go_ret
      exact ⟨ret_bool HV.out.symm, hbo _⟩
    · have h2' : bef.length ≤ 12 := by omega
      have HV : Hid (longT ⟨name, len, crew, pow, ba, bc, bef⟩ = bef.any longS) := by unfold Hid longT; simp [h1, h2]
      have b1 : decide ((60 : Int) < name.size) = false := by simp; omega
      have b2 : decide ((12 : Int) < bef.length) = false := by simp; omega
      generalize bef.any longS = x at *
      go_enter Tryz.func18, Tryz.ntmps18
      go_wp2_with (go_at_call 19; refine (hC _).mono ?_; rintro e w1 ⟨rfl, hb1⟩)
      go_ret
      exact ⟨ret_bool HV.out.symm, (hbo _).trans (hb1.mono (by simp))⟩

def largeB (l : List Task) : Bool := (decide (6 < l.length) && decide (l.length ≤ 8)) || decide (12 < l.length) || l.any longT

set_option maxHeartbeats 2000000 in
theorem lawLarge (v : Value) (l : List Task) (w : World) (hl : TasksAt w w.heap.size v l) :
    Calls Tryz.prog 5 #[v] w fun e w' => e = .returned (.bool (largeB l)) ∧ Below w.heap.size w w' := by
  have hC := containsFuncTask v l 18 #[] longT entersLargeT w hl (fun t ht w' hb => largeTask t w' (hl.2.2 t ht) (((hl.2.1 t ht).below hb (Nat.le_refl _)).mono hb.size))
  obtain ⟨A, c, rfl, hc1, hc2, -⟩ := hl.open_
  unfold maxLen at hc2
  clear hl
  by_cases h1 : 6 < l.length
  · have d1 : decide ((6 : Int) < l.length) = true := by simp; omega
    by_cases h2 : l.length ≤ 8
    · have d2 : decide ((l.length : Int) ≤ 8) = true := by simp; omega
      have HV : Hid (largeB l = true) := by unfold Hid largeB; simp [h1, h2]
      clear hC h1 h2
      go_enter Tryz.func5, Tryz.ntmps5
      go_wp2_with fail
      go_ret
      exact ⟨ret_bool HV.out.symm, Below.refl _ _⟩
    · have d2 : decide ((l.length : Int) ≤ 8) = false := by simp; omega
      by_cases h3 : 12 < l.length
      · have d3 : decide ((12 : Int) < l.length) = true := by simp; omega
        have HV : Hid (largeB l = true) := by unfold Hid largeB; simp [h3]
        clear hC h1 h2 h3
        go_enter Tryz.func5, Tryz.ntmps5
        go_wp2_with fail
        go_ret
        exact ⟨ret_bool HV.out.symm, Below.refl _ _⟩
      · have d3 : decide ((12 : Int) < l.length) = false := by simp; omega
        have HV : Hid (largeB l = l.any longT) := by unfold Hid largeB; simp [h1, h2, h3]
        generalize l.any longT = x at *
        clear h1 h2 h3
        go_enter Tryz.func5, Tryz.ntmps5
        go_wp2_with (go_at_call 17; refine hC.mono ?_; rintro e w1 ⟨rfl, hb1⟩)
        go_ret
        exact ⟨ret_bool HV.out.symm, hb1⟩
  · have d1 : decide ((6 : Int) < l.length) = false := by simp; omega
    have d3 : decide ((12 : Int) < l.length) = false := by simp; omega
    have HV : Hid (largeB l = l.any longT) := by unfold Hid largeB; simp [h1]; omega
    generalize l.any longT = x at *
    clear h1
    go_enter Tryz.func5, Tryz.ntmps5
    go_wp2_with (go_at_call 17; refine hC.mono ?_; rintro e w1 ⟨rfl, hb1⟩)
    go_ret
    exact ⟨ret_bool HV.out.symm, hb1⟩

end Go.Proofs.YtfcfphamecbcgaaGreat
