/- schedule.Check. -/
import Derived.Test.YtcjejcbikgcnbaaNewPlan
import Derived.Test.YtcjejcbikgcnbaaHeld
import Derived.Test.YtcjejcbikgcnbaaFits
import Derived.Test.YtcjejcbikgcnbaaGiven43
namespace Go.Proofs.Ytcjejcbikgcnbaa
open Go.RowKit Go.Shelf

theorem entersC43 : ∀ args w, (callFunc 83 args).run Try.prog w = .ok (.enter 83 args) w := enters_of Try.func83 (by kernel_rfl) rfl

/-- Task k ends after task i begins. -/
def lateB (l : List Task) (s : List Int) (i : Nat) (k : Int) : Bool := decide (atI s i < endN l s k.toNat)
def stepOkB (l : List Task) (c p : Int) (s : List Int) (i : Nat) : Bool := wholeB l c p s i && !((rowsOf l).getD i []).any (lateB l s i)
/-- Starts keep the limits. -/
def checkB (l : List Task) (c p : Int) (s : List Int) : Bool := (List.range l.length).all (stepOkB l c p s)

set_option maxRecDepth 100000 in
set_option maxHeartbeats 2000000 in
theorem checkClosure (g B D T I : Nat) (l : List Task) (c p : Int) (tv bv sv : Value) (s : List Int) (i k : Nat) (w : World) (hR : RightT l) (h : PlanR w B g l c p tv bv sv s) (hi : i < l.length) (hk : k < l.length)
    (hD : w.cell? ⟨D, 0, none⟩ = some (.pointer (some ⟨g, 0, none⟩))) (hT : w.cell? ⟨T, 0, none⟩ = some sv) (hI : w.cell? ⟨I, 0, none⟩ = some (.int .i64 i)) :
    Calls Try.prog 83 #[.int .i64 k, .pointer (some ⟨D, 0, none⟩), .pointer (some ⟨T, 0, none⟩), .pointer (some ⟨I, 0, none⟩)] w fun e w' => e = .returned (.bool (lateB l s i k)) ∧ ∃ q, w.drewN q = w' := by
  have hE := fun q => quiet_left' (planEnd B g l c p tv bv sv s k (w.drewN q) hR (h.drewN q) hk)
  obtain ⟨b1, off1, cap1, rfl, hb1, hl1, hl2, hs⟩ := h.cellS hi
  have h1 := hs i hi
  have i1 : (0 : Int) ≤ (i : Int) := Int.natCast_nonneg _
  have i2 : (i : Int) < (l.length : Int) := by omega
  have HV : Hid (lateB l s i k = decide (atI s i < endN l s k)) := rfl
  clear hs h hR
  generalize endN l s k = y at *
  generalize atI s i = x at *
  go_enter Try.func83, Try.ntmps83
  go_wp2_with fail
  go_quiet ((go_at_call 84; exact hE _))
  go_wp2
  go_ret
  exact ⟨ret_bool HV.out.symm, _, rfl⟩

noncomputable def checkE (l : List Task) (c p : Int) (s : List Int) : Int := @ite _ (validB l c p = true) (Classical.propDecidable _) (startsN l s) 1
def CheckPost (l : List Task) (c p : Int) (s : List Int) (w : World) (e : Ending) (w' : World) : Prop :=
  Below w.heap.size w w' ∧ e = .returned (.tuple #[.bool (decide (checkE l c p s = 0) && checkB l c p s), .int .i64 (checkE l c p s)])
theorem checkE_no {l : List Task} {c p : Int} {s : List Int} (h : validB l c p = false) : checkE l c p s = 1 := by unfold checkE; rw [h]; exact if_neg (by simp)
theorem checkE_yes {l : List Task} {c p : Int} {s : List Int} (h : validB l c p = true) : checkE l c p s = startsN l s := by unfold checkE; rw [h]; exact if_pos rfl
theorem valid_right {l : List Task} {c p : Int} (h : validB l c p = true) : RightT l ∧ 0 ≤ c ∧ c ≤ 1000 ∧ 0 ≤ p ∧ p ≤ 1000 := by
  unfold validB betweenB at h
  simp only [Bool.and_eq_true, decide_eq_true_eq] at h
  exact ⟨(right_iff l).1 h.1.1, h.1.2.1, h.1.2.2, h.2.1, h.2.2⟩
theorem mem_row {l : List Task} (hR : RightT l) {k : Nat} (hk : k < l.length) {x : Int} (hx : x ∈ pls l l[k].bef) : ∃ j : Nat, j < l.length ∧ x = (j : Int) := by
  unfold pls at hx
  rw [List.mem_map] at hx
  obtain ⟨s, hs, rfl⟩ := hx
  obtain ⟨j, hj, e, -⟩ := pl_mem (((befOK_iff l).1 hR.bef l[k] (List.getElem_mem hk)).2 s hs).1
  exact ⟨j, hj, e⟩
theorem own_setBlk {w : World} {B e s n g i : Nat} {v u : Value} {xs : List Value} {t : TypeId} {cs : Array Value} (h : w.ownsRow B e s v n xs) (hg : Blk w g t cs) (hne : e ≠ t) : (w.setCell ⟨g, i, none⟩ u).ownsRow B e s v n xs :=
  h.kept (hg.setGrown i u) (.inr fun x => (hg.ne_own h hne) x.symm)
theorem BefRows.setBlk {w : World} {base O g i : Nat} {l : List Task} {k : Nat} {cs : List Value} {u : Value} {t : TypeId} {gs : Array Value} (h : BefRows w base O l k cs) (hg : Blk w g t gs) (h1 : 3 ≠ t) (h2 : 29 ≠ t) : BefRows (w.setCell ⟨g, i, none⟩ u) base O l k cs :=
  ⟨own_setBlk h.own hg h2, fun j hj hc hjk => own_setBlk (h.rows j hj hc hjk) hg h1, h.rest⟩
theorem BefRows.cs_len {w : World} {base O : Nat} {l : List Task} {k : Nat} {cs : List Value} (h : BefRows w base O l k cs) : cs.length = l.length := own_len h.own

/-- What Check's loop reads. -/
structure CheckSt (w : World) (W g D T : Nat) (l : List Task) (c p : Int) (tv bv sv : Value) (s : List Int) (O : Nat) (cs : List Value) : Prop where
  plan : PlanR w W g l c p tv bv sv s
  hD : w.cell? ⟨D, 0, none⟩ = some (.pointer (some ⟨g, 0, none⟩))
  hT : w.cell? ⟨T, 0, none⟩ = some sv
  rows : BefRows w 0 O l l.length cs
  lt : D < W ∧ T < W ∧ O < W ∧ W = w.heap.size

theorem all_range_succ {f : Nat → Bool} {k : Nat} : (List.range (k + 1)).all f = ((List.range k).all f && f k) := by rw [List.range_succ, List.all_append]; simp
theorem all_range_no {f : Nat → Bool} {k n : Nat} (hk : k < n) (h : f k = false) : (List.range n).all f = false := by
  rw [List.all_eq_false]
  exact ⟨k, List.mem_range.2 hk, by simp [h]⟩

set_option maxRecDepth 100000 in
set_option maxHeartbeats 8000000 in
theorem schedCheck (v u : Value) (l : List Task) (c p : Int) (s : List Int) (w : World) (hl : TasksAt w w.heap.size v l) (hs : IntsAt w w.heap.size u s) (hw : Wide s) :
    Calls Try.prog 35 #[v, .int .i64 c, .int .i64 p, u] w (CheckPost l c p s w) := by
  have HT : Hid (∀ w1, Below w.heap.size w w1 → TasksAt w1 w1.heap.size v l) := fun w1 hb => (hl.below hb (Nat.le_refl _)).mono hb.size
  have HS : Hid (∀ w1, Below w.heap.size w w1 → IntsAt w1 w1.heap.size u s) := fun w1 hb => (hs.below hb (Nat.le_refl _)).mono hb.size
  have hV : ∀ o, Calls Try.prog 52 #[v, .int .i64 c, .int .i64 p] (w.alloc o) fun e w' => e = .returned (.bool (validB l c p)) ∧ Below (w.alloc o).heap.size (w.alloc o) w' := fun o => schedValid v l c p _ (HT.out _ ((Below.refl _ _).alloc (Nat.le_refl _) o))
  have HG : Hid (∀ w1, Below w.heap.size w w1 → Calls Try.prog 79 #[v, u] w1 fun e w' => e = .returned (.int .i64 (startsN l s)) ∧ w1 = w') := fun w1 hb =>
    schedGiven43 v u l s w1.heap.size w1 (HT.out w1 hb) (HS.out w1 hb) hw
  have hb0 : ∀ o, Below w.heap.size w (w.alloc o) := fun o => (Below.refl _ _).alloc (Nat.le_refl _) o
  obtain ⟨A, cc, rfl, hA1, hA2, -⟩ := hl.open_
  obtain ⟨A', cc', rfl, hA1', hA2', -⟩ := hs.open_
  unfold maxLen at hA2 hA2'
  clear hl hs
  cases hv : validB l c p with
  | false =>
    have HE : Hid (checkE l c p s = 1) := checkE_no hv
    rw [hv] at hV
    clear hv HG
    go_enter Try.func35, Try.ntmps35
    go_wp2_with fail
    refine (hV _).mono ?_
    rintro e w1 ⟨rfl, hb1⟩
    go_wp2_with fail
    refine bodyPost_ret (results_tmp2 rfl _ _ _) (by rfl) ?_
    exact ⟨(hb0 _).trans (hb1.mono (by simp)), by rw [HE.out]; rfl⟩
  | true =>
    have HE : Hid (checkE l c p s = startsN l s) := checkE_yes hv
    obtain ⟨hR, hc0, hc1, hp0, hp1⟩ := valid_right hv
    have HRT := Lib.hid hR
    have h8 := hR.len
    rw [hv] at hV
    clear hv hR
    by_cases hst : startsN l s = 0
    rotate_left
    · have Hst := Lib.hid hst
      have HG' := HG.out
      generalize hx : startsN l s = x at *
      have hb : (x != 0) = true := by simpa using Hst.out
      have Hx := Lib.hid hx
      clear hst HG hx
      go_enter Try.func35, Try.ntmps35
      go_wp2_with fail
      refine (hV _).mono ?_
      rintro e w1 ⟨rfl, hb1⟩
      have hbx := (hb0 (.cells #[.slice A' s.length cc'] 29)).trans (hb1.mono (by simp))
      have z1 := hb1.cell (p := ⟨w.heap.size, 0, none⟩) (by simp)
      rw [World.cell?_alloc_new] at z1
      simp only [List.getElem?_toArray, List.getElem?_cons_zero] at z1
      have hg := HG' w1 hbx
      clear HG' hV hb1
      go_wp2_with fail
      refine hg.mono ?_
      rintro e w2 ⟨rfl, rfl⟩
      go_wp2_with fail
      refine bodyPost_ret (results_tmp2 rfl _ _ _) (by rfl) ?_
      refine ⟨hbx, ?_⟩
      rw [HE.out, decide_eq_false Hst.out]
      rfl
    · obtain ⟨hlen, hbd⟩ := startsN_zero hst
      have HG' : ∀ w1, Below w.heap.size w w1 → Calls Try.prog 79 #[.slice A l.length cc, .slice A' s.length cc'] w1 fun e w' => e = .returned (.int .i64 0) ∧ w1 = w' := fun w1 hb => by
        have := HG.out w1 hb
        rw [hst] at this
        exact this
      have HE0 : Hid (checkE l c p s = 0) := by unfold Hid; rw [HE.out, hst]
      have HLn := Lib.hid hlen
      have HBd := Lib.hid hbd
      clear hst HG HE hlen hbd
      go_enter Try.func35, Try.ntmps35
      go_wp2_with fail
      refine (hV _).mono ?_
      rintro e w1 ⟨rfl, hb1⟩
      have hbx := (hb0 (.cells #[.slice A' s.length cc'] 29)).trans (hb1.mono (by simp))
      have z1 := hb1.cell (p := ⟨w.heap.size, 0, none⟩) (by simp)
      rw [World.cell?_alloc_new] at z1
      simp only [List.getElem?_toArray, List.getElem?_cons_zero] at z1
      have hzs := hb1.size
      simp only [World.size_alloc] at hzs
      have hg := HG' w1 hbx
      clear HG' hV hb1
      go_wp2_with fail
      refine hg.mono ?_
      rintro e w2 ⟨rfl, rfl⟩
      clear hg
      go_wp2_with fail
      refine (schedNewPlan _ l c p w1 HRT.out (HT.out _ hbx)).mono ?_
      rintro e w3 ⟨g, O, S, cs, rfl, hnp, hb3⟩
      have hb4 := hb3.alloc hb3.size (.cells #[.pointer (some ⟨g, 0, none⟩)] 94)
      have hblk := hnp.blk
      have hgl := hblk.lt
      have z3 := (hb4.cell (p := ⟨w.heap.size, 0, none⟩) (by simp only; omega)).trans z1
      have hfz := (hblk.alloc (.cells #[.pointer (some ⟨g, 0, none⟩)] 94)).frozen 4
      have hcz := (hblk.alloc (.cells #[.pointer (some ⟨g, 0, none⟩)] 94)).cell 4
      simp only [List.getElem?_toArray, List.getElem?_cons_succ, List.getElem?_cons_zero] at hcz
      have hzD := World.cell?_alloc_new w3 #[.pointer (some ⟨g, 0, none⟩)] 94 0
      simp only [List.getElem?_toArray, List.getElem?_cons_zero] at hzD
      have hST : CheckSt ((w3.alloc (.cells #[.pointer (some ⟨g, 0, none⟩)] 94)).setCell ⟨g, 4, none⟩ (.slice A' s.length cc')) (w3.heap.size + 1) g w3.heap.size w.heap.size l c p (.slice A l.length cc) (.slice (some ⟨O, 0, none⟩) l.length l.length) (.slice A' s.length cc') s O cs := by
        have hbA := hblk.alloc (.cells #[.pointer (some ⟨g, 0, none⟩)] 94)
        have hset : Below w1.heap.size w1 ((w3.alloc (.cells #[.pointer (some ⟨g, 0, none⟩)] 94)).setCell ⟨g, 4, none⟩ (.slice A' s.length cc')) := hb4.setCell (p := ⟨g, 4, none⟩) hnp.hg _
        have hall := hbx.trans (hset.mono hbx.size)
        have hsz : ((w3.alloc (.cells #[.pointer (some ⟨g, 0, none⟩)] 94)).setCell ⟨g, 4, none⟩ (.slice A' s.length cc')).heap.size = w3.heap.size + 1 := by simp [World.setCell]
        have hrw := (hnp.rows.alloc (.cells #[.pointer (some ⟨g, 0, none⟩)] 94)).setBlk (i := 4) (u := .slice A' s.length cc') hbA (by decide) (by decide)
        refine ⟨⟨hbA.set_ 4 _, by omega, ?_, ?_, HLn.out, fun x hx => by have := HBd.out x hx; omega⟩, ?_, ?_, own_mono_rows hrw (Nat.zero_le _), ⟨by omega, by have := hb3.size; omega, ?_, hsz.symm⟩⟩
        · rw [← hsz]; exact HT.out _ hall
        · rw [← hsz]; exact HS.out _ hall
        · exact (World.cell?_setCell_other _ ⟨g, 4, none⟩ ⟨w3.heap.size, 0, none⟩ _ (by intro e; injection e with e1; omega)).trans hzD
        · rw [hset.cell (p := ⟨w.heap.size, 0, none⟩) (by simp only; omega)]
          exact z1
        · rcases hnp.rows.own.2 with ⟨h, _⟩ | ⟨g', cap, cur, h, _, hh, _⟩
          · cases h
          · injection h with h
            injection h with h
            injection h with h
            subst h
            have := (Array.getElem?_eq_some_iff.1 hh).1
            omega
      have hall : Below w.heap.size w ((w3.alloc (.cells #[.pointer (some ⟨g, 0, none⟩)] 94)).setCell ⟨g, 4, none⟩ (.slice A' s.length cc')) := hbx.trans ((hb4.setCell (p := ⟨g, 4, none⟩) hnp.hg _).mono hbx.size)
      rw [World.setCell_alloc_past _ _ _ _ hgl] at hST hall
      have HST := Lib.hid hST
      clear hST hnp hb3 hb4 hblk HBd
      go_wp2_with fail
      generalize ((w3.setCell ⟨g, 4, none⟩ (.slice A' s.length cc')).alloc (.cells #[.pointer (some ⟨g, 0, none⟩)] 94)) = w4 at *
      generalize w3.heap.size = D at *
      clear hcz hfz hzD z3 z1
      go_loopw [34] (fun i wr => ∃ k : Nat, k ≤ l.length ∧ i = .int .i64 k ∧ Hid ((List.range k).all (stepOkB l c p s) = true) ∧ Below w4.heap.size w4 wr) (fun i _ => l.length - (intOf i).toNat)
      case atStart => exact ⟨0, Nat.zero_le _, rfl, rfl, Below.refl _ _⟩
      case round =>
        obtain ⟨k, hk, rfl, HN, hbel⟩ := hrel
        by_cases hkl : k < l.length
        · have hbx := hbel.alloc hbel.size (.cells #[.int .i64 k] 3)
          have hsz := hbel.size
          have hST := HST.out
          obtain ⟨hPlan, hD, hT, hRows, hD1, hT1, hO1, hW4⟩ := hST
          rw [hW4] at hPlan hD1 hT1 hO1
          have hcsl := hRows.cs_len
          have hrow := hRows.rows k hkl (by omega) hkl
          have hcO := hRows.own.cellAt k (by omega)
          have xD := (hbx.cell (p := ⟨D, 0, none⟩) hD1).trans hD
          have xT := (hbx.cell (p := ⟨w.heap.size, 0, none⟩) hT1).trans hT
          have xg := (hbx.cell (p := ⟨g, 1, none⟩) hPlan.hg).trans (hPlan.blk.cell 1)
          have xO := (hbx.cell (p := ⟨O, k, none⟩) hO1).trans hcO
          have xI := World.cell?_alloc_new wr #[.int .i64 k] 3 0
          simp only [List.getElem?_toArray, List.getElem?_cons_succ, List.getElem?_cons_zero] at xg xI
          rw [List.getElem?_eq_getElem (by omega)] at xO
          have hrowAt : RowAt (Value.int .i64) w4 w4.heap.size (cs[k]'(by omega)) (pls l l[k].bef) := RowAt.of_own (n := l[k].bef.length) hrow
          have HW : Hid (∀ w', Below w4.heap.size w4 w' → Calls Try.prog 81 #[.pointer (some ⟨g, 0, none⟩), .int .i64 k] w' fun e w'' => e = .returned (.bool (wholeB l c p s k)) ∧ Below w'.heap.size w' w'') := fun w' hb =>
            planWhole g l c p _ _ _ s k w' HRT.out ((hPlan.below hb).mono hb.size) hkl
          have HC : Hid (∀ w', Below w4.heap.size w4 w' → w'.cell? ⟨wr.heap.size, 0, none⟩ = some (.int .i64 k) → wr.heap.size < w'.heap.size → Calls Try.prog 82 #[cs[k]'(by omega), .func (.func 83) #[] #[.pointer (some ⟨D, 0, none⟩), .pointer (some ⟨w.heap.size, 0, none⟩), .pointer (some ⟨wr.heap.size, 0, none⟩)]] w'
              fun e w'' => e = .returned (.bool ((pls l l[k].bef).any (lateB l s k))) ∧ Below w'.heap.size w' w'') := fun w' hb hI hIl => by
            refine containsFuncInt _ (pls l l[k].bef) 83 #[.pointer (some ⟨D, 0, none⟩), .pointer (some ⟨w.heap.size, 0, none⟩), .pointer (some ⟨wr.heap.size, 0, none⟩)] (lateB l s k) entersC43 w' ((hrowAt.below hb (Nat.le_refl _)).mono hb.size) ?_
            intro x hx w'' hb''
            obtain ⟨j, hj, rfl⟩ := mem_row HRT.out hkl hx
            have hbb := hb.trans (hb''.mono hb.size)
            refine (checkClosure g w4.heap.size D w.heap.size wr.heap.size l c p _ _ _ s k j w'' HRT.out (hPlan.below hbb) hkl hj ((hbb.cell (p := ⟨D, 0, none⟩) hD1).trans hD) ((hbb.cell (p := ⟨w.heap.size, 0, none⟩) hT1).trans hT) ((hb''.cell (p := ⟨wr.heap.size, 0, none⟩) hIl).trans hI)).mono ?_
            rintro e w5 ⟨he, q, rfl⟩
            exact ⟨he, below_drewN (Below.refl _ _) q⟩
          have HStep : Hid (stepOkB l c p s k = (wholeB l c p s k && !(pls l l[k].bef).any (lateB l s k))) := by unfold Hid stepOkB; rw [getD_rows hkl]
          have HNext : Hid (stepOkB l c p s k = true → (List.range (k + 1)).all (stepOkB l c p s) = true) := fun h => by rw [all_range_succ, HN.out, h]; rfl
          have HNo : Hid (stepOkB l c p s k = false → checkB l c p s = false) := fun h => all_range_no hkl h
          have i1 : (0 : Int) ≤ (k : Int) := Int.natCast_nonneg _
          have i2 : (k : Int) < (l.length : Int) := by omega
          clear hPlan hD hT hRows hcO hrow hrowAt HN
          generalize (pls l l[k].bef).any (lateB l s k) = lt at *
          generalize wholeB l c p s k = wh at *
          generalize stepOkB l c p s k = ok at *
          generalize cs[k]'(by omega) = rowv at *
          go_wp2_with fail
          have hwx : wr.heap.size < (wr.alloc (.cells #[.int .i64 k] 3)).heap.size := by simp
          generalize wr.alloc (.cells #[.int .i64 k] 3) = wx at *
          generalize wr.heap.size = I at *
          have hW := HeldB.call (fun w' (hb : Below wx.heap.size wx w') => HW.out w' (hbx.trans (hb.mono hbx.size)))
          have hC := HeldB.call (fun w' (hb : Below wx.heap.size wx w') => HC.out w' (hbx.trans (hb.mono hbx.size)) ((hb.cell (p := ⟨I, 0, none⟩) hwx).trans xI) (Nat.lt_of_lt_of_le hwx hb.size))
          have yD := HeldB.cell xD
          have yI := HeldB.cell xI
          have yg := HeldB.cell xg
          have yO := HeldB.cell xO
          clear HW HC
          cases wh with
          | false =>
            have HB : Hid (checkB l c p s = false) := HNo.out (by rw [HStep.out]; rfl)
            clear HNo HNext HStep
            refine wp_region_heldb (by kernel_rfl) (by kernel_rfl) ?_
            repeat (go_big_quiet_step ((go_at_call 81; exact hW _)))
            refine wpQuiet_nil ?_
            rintro _ ⟨⟨w5, hb5⟩, rfl⟩
            clear yD yI yg yO hW hC
            go_wp2_with fail
            refine bodyPost_ret (results_tmp2 rfl _ _ _) (by rfl) ?_
            refine ⟨hall.trans ((hbx.trans (hb5.mono hbx.size)).mono hall.size), ?_⟩
            rw [HE0.out, HB.out]
            rfl
          | true =>
            cases lt with
            | false =>
              have hN := Lib.hid (HNext.out (by rw [HStep.out]; rfl))
              clear HNo HNext HStep
              refine wp_region_heldb (by kernel_rfl) (by kernel_rfl) ?_
              repeat (go_big_quiet_step ((first | (go_at_call 81; exact hW _) | (go_at_call 82; exact hC _))))
              refine wpQuiet_nil ?_
              rintro _ ⟨⟨w5, hb5⟩, rfl⟩
              clear yD yI yg yO hW hC
              go_wp2_with fail
              go_roundw
              case rel => exact ⟨k + 1, by omega, by go_num, hN, hbx.trans (hb5.mono hbx.size)⟩
              case measure => simp [intOf]; omega
            | true =>
              have HB : Hid (checkB l c p s = false) := HNo.out (by rw [HStep.out]; rfl)
              clear HNo HNext HStep
              refine wp_region_heldb (by kernel_rfl) (by kernel_rfl) ?_
              repeat (go_big_quiet_step ((first | (go_at_call 81; exact hW _) | (go_at_call 82; exact hC _))))
              refine wpQuiet_nil ?_
              rintro _ ⟨⟨w5, hb5⟩, rfl⟩
              clear yD yI yg yO hW hC
              go_wp2_with fail
              refine bodyPost_ret (results_tmp2 rfl _ _ _) (by rfl) ?_
              refine ⟨hall.trans ((hbx.trans (hb5.mono hbx.size)).mono hall.size), ?_⟩
              rw [HE0.out, HB.out]
              rfl
        · have hke : k = l.length := by omega
          subst hke
          have HV : Hid (checkB l c p s = true) := HN.out
          go_wp2_with fail
          refine bodyPost_ret (results_tmp2 rfl _ _ _) (by rfl) ?_
          refine ⟨hall.trans (hbel.mono hall.size), ?_⟩
          rw [HE0.out, HV.out]
          rfl

end Go.Proofs.Ytcjejcbikgcnbaa
