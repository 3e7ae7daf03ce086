/- For every input the law returns true, and its arguments read as they did: CntM, RefAgain, LawAgain, RowAgain. -/
import Derived.Test.YtfcfphamecbcgaaGreatG17
import Derived.Test.YtfcfphamecbcgaaGreatG18
import Derived.Test.YtfcfphamecbcgaaGreatG19
import Derived.Test.YtfcfphamecbcgaaGreatG6
import Derived.Test.YtfcfphamecbcgaaGreatG7

/- How many of the first tasks have not ended. No program in sight. -/
namespace Go.Proofs.YtfcfphamecbcgaaGreat
open Go.RowKit Go.Shelf

section
variable {l ms : List Task} {s : List Int} {a c p : Int}
/-- How many of the first tasks are not at an end. -/
def cntM (l : List Task) (s : List Int) (a : Int) (k : Nat) : Nat := ((List.range k).filter (liveB l s a)).length
theorem cntM_succ {k : Nat} : cntM l s a (k + 1) = cntM l s a k + if liveB l s a k then 1 else 0 := by
  unfold cntM
  rw [List.range_succ, List.filter_append, List.length_append]
  congr 1
  cases h : liveB l s a k <;> simp [h]
theorem cntM_all : cntM l s a l.length = (liveZ l s a).length := rfl
theorem live_frontM {k : Nat} : ∀ m, k ≤ m → ∃ t, (List.range m).filter (liveB l s a) = (List.range k).filter (liveB l s a) ++ t
  | 0, h => ⟨[], by rw [show k = 0 by omega]; rfl⟩
  | m + 1, h => by
    by_cases e : k = m + 1
    · exact ⟨[], by rw [e]; simp⟩
    · obtain ⟨t, ht⟩ := live_frontM (k := k) m (by omega)
      exact ⟨t ++ [m].filter (liveB l s a), by rw [List.range_succ, List.filter_append, ht, List.append_assoc]⟩
theorem live_atM {k : Nat} (hk : k < l.length) (hl : liveB l s a k = true) : cntM l s a k < (liveZ l s a).length ∧ zAt (liveZ l s a) (cntM l s a k) = k := by
  obtain ⟨t, ht⟩ := live_frontM (l := l) (s := s) (a := a) (k := k + 1) l.length (by omega)
  rw [List.range_succ, List.filter_append, show [k].filter (liveB l s a) = [k] by simp [hl]] at ht
  have hz : liveZ l s a = (List.range k).filter (liveB l s a) ++ [k] ++ t := ht
  rw [hz]
  unfold cntM zAt
  constructor
  · simp
  · rw [List.getD_eq_getElem?_getD, List.append_assoc, List.getElem?_append_right (Nat.le_refl _)]
    simp
theorem again_liveM (hR : RightT l) {r : List Int} {k : Nat} (hk : k < l.length) (hl : liveB l s a k = true) : agI l s a r k = a + atI r (cntM l s a k) := by
  obtain ⟨h1, h2⟩ := live_atM hk hl
  have h := (sub_state (s := s) (a := a) hR).pl hR h1
  rw [h2] at h
  unfold agI
  rw [h, if_pos (Int.natCast_nonneg _), Int.toNat_natCast]
theorem again_deadM (hR : RightT l) {r : List Int} {k : Nat} (hk : k < l.length) (hl : liveB l s a k = false) : agI l s a r k = atI s k := by
  have hS := sub_state (s := s) (a := a) hR
  have hno : (tk l k).name ∉ names (stateN l s a) := fun h => by
    obtain ⟨b, hb, e⟩ := hS.names.1 h
    have h1 := hS.zlt hb
    rw [tk_get h1, tk_get hk] at e
    have h2 := distinct_inj hR.dist h1 hk e
    have h3 := (mem_live.1 (zAt_mem hb)).2
    rw [h2] at h3
    unfold liveB at hl
    rw [decide_eq_true h3] at hl
    cases hl
  unfold agI
  rw [pl_not hno, if_neg (by omega)]
end

end Go.Proofs.YtfcfphamecbcgaaGreat

/- The reference's Limits, Again, End and Later of layer 45. -/
namespace Go.Proofs.YtfcfphamecbcgaaGreat
open Go.RowKit Go.Shelf

theorem state_fit {l ms : List Task} {c p : Int} {s : List Int} {a : Int} (hN : norms ms = stateN l s a) : ms.any (tooMuch c p) = (stateN l s a).any (tooMuch c p) := con_any (hN.trans norms_state.symm) c p
/-- The reference's Least of the state. -/
theorem refLeastS (ov : Value) (l ms : List Task) (c p : Int) (s : List Int) (a : Int) (w : World) (hE : errR l c p s a = 0) (hT : TasksAt w w.heap.size ov ms) (hN : norms ms = stateN l s a) :
    Calls Tryz.prog 29 #[ov, .int .i64 c, .int .i64 p] w (FurPost (leastN (stateN l s a) c p) w) := by
  obtain ⟨hv, hg, hn⟩ := errR_zero hE
  obtain ⟨hR, hc0, -, hp0, -⟩ := valid_right hv
  have hcn := hN.trans norms_state.symm
  have hS := con_sub hcn.symm (sub_state (s := s) (a := a) hR)
  have := refLeast43 ov ms c p w (hS.right hR) ⟨hc0, hp0⟩ (by rw [state_fit hN]; exact hn) hT
  rwa [con_least hcn] at this

set_option maxRecDepth 100000 in
set_option maxHeartbeats 4000000 in
theorem refLimits45 (v u : Value) (l : List Task) (c p : Int) (s : List Int) (a : Int) (w : World) (hl : TasksAt w w.heap.size v l) (hs : IntsAt w w.heap.size u s) (hw : Wide s) :
    Calls Tryz.prog 9 #[v, .int .i64 c, .int .i64 p, u, .int .i64 a] w fun e w' => e = .returned (.int .i64 (errR l c p s a)) ∧ Below w.heap.size w w' := by
  have hV := refValid v l c p w hl
  have HT : Hid (∀ w1, Below w.heap.size w w1 → TasksAt w1 w1.heap.size v l) := fun w1 hb => (hl.below hb (Nat.le_refl _)).mono hb.size
  have HS : Hid (∀ w1, Below w.heap.size w w1 → IntsAt w1 w1.heap.size u s) := fun w1 hb => (hs.below hb (Nat.le_refl _)).mono hb.size
  have HGi : Hid (∀ w1, Below w.heap.size w w1 → Calls Tryz.prog 26 #[v, u, .int .i64 a] w1 fun e w' => e = .returned (.int .i64 (givenR l s a)) ∧ Below w1.heap.size w1 w') := fun w1 hb => refGiven45 v u l s a w1 (HT.out w1 hb) (HS.out w1 hb) hw
  have HRs : Hid (givenR l s a = 0 → ∀ w1, Below w.heap.size w w1 → Calls Tryz.prog 28 #[v, u, .int .i64 a] w1 (StatePost l s a w1)) := fun hg w1 hb => by
    obtain ⟨hR, hst, ha0, ha1, -⟩ := givenR_zero hg
    obtain ⟨hlen, hbd⟩ := startsN_zero hst
    exact refState v u l s a w1 hR (HT.out w1 hb) (HS.out w1 hb) hlen hbd (by omega)
  obtain ⟨A, cc, rfl, hA1, hA2, -⟩ := hl.open_
  obtain ⟨A1, c1, rfl, hB1, hB2, -⟩ := hs.open_
  unfold maxLen at hA2 hB2
  clear hl hs hw
  go_enter Tryz.func9, Tryz.ntmps9
  go_wp2_with fail
  refine hV.mono ?_
  rintro e w1 ⟨rfl, hb1⟩
  clear hV
  cases hv : validB l c p with
  | false =>
    have HE : Hid (errR l c p s a = 1) := by unfold Hid errR; rw [hv]; rfl
    clear hv
    go_wp2_with fail
    go_ret
    exact ⟨ret_int HE.out.symm, hb1⟩
  | true =>
    have hGi := HGi.out w1 hb1
    by_cases hg : givenR l s a = 0
    · have HR2 := Lib.hid (HRs.out hg w1)
      rw [hg] at hGi
      have HE : Hid (errR l c p s a = if (stateN l s a).any (tooMuch c p) = true then 22 else 0) := by unfold Hid errR; rw [hv, hg]; rfl
      have HRs2 := Lib.hid (HRs.out hg)
      clear hv hg HR2 HRs HGi
      go_wp2_with fail
      refine hGi.mono ?_
      rintro e w2 ⟨rfl, hb2⟩
      have hbx2 := hb1.trans (hb2.mono hb1.size)
      clear hGi
      go_wp2_with fail
      refine (HRs2.out _ hbx2).mono ?_
      rintro e w3 ⟨hb3, ov, ms, rfl, hT, hN⟩
      have hbx3 := hbx2.trans (hb3.mono hbx2.size)
      have hNe := refNeeded ov ms c p w3.heap.size w3 hT
      rw [state_fit hN] at hNe
      obtain ⟨A3, c3, rfl, -, -, -⟩ := hT.open_
      clear hT hN
      cases hx : (stateN l s a).any (tooMuch c p) with
      | true =>
        have HE2 : Hid (errR l c p s a = 22) := by unfold Hid; rw [HE.out, hx]; rfl
        rw [hx] at hNe
        clear hx HE
        go_wp2_with (go_at_call 27; refine hNe.mono ?_; rintro e w' ⟨rfl, rfl⟩)
        go_ret
        exact ⟨ret_int HE2.out.symm, hbx3⟩
      | false =>
        have HE2 : Hid (errR l c p s a = 0) := by unfold Hid; rw [HE.out, hx]; rfl
        rw [hx] at hNe
        clear hx HE
        go_wp2_with (go_at_call 27; refine hNe.mono ?_; rintro e w' ⟨rfl, rfl⟩)
        go_ret
        exact ⟨ret_int HE2.out.symm, hbx3⟩
    · have HE : Hid (errR l c p s a = givenR l s a) := by unfold Hid errR; rw [hv, if_pos rfl, if_neg hg]
      generalize givenR l s a = x at *
      have hxb : (x != 0) = true := bne_iff_ne.2 hg
      clear hv hg HRs
      go_wp2_with (go_at_call 26; refine hGi.mono ?_; rintro e w2 ⟨rfl, hb2⟩)
      go_ret
      exact ⟨ret_int HE.out.symm, hb1.trans (hb2.mono hb1.size)⟩

set_option maxRecDepth 100000 in
set_option maxHeartbeats 4000000 in
theorem refEnd45 (v u : Value) (l : List Task) (c p : Int) (s : List Int) (a : Int) (w : World) (hE : errR l c p s a = 0) (hl : TasksAt w w.heap.size v l) (hs : IntsAt w w.heap.size u s) :
    Calls Tryz.prog 12 #[v, .int .i64 c, .int .i64 p, u, .int .i64 a] w fun e w' => e = .returned (.int .i64 (a + (leastN (stateN l s a) c p).1)) ∧ Below w.heap.size w w' := by
  obtain ⟨h1, h2, h3, h4⟩ := err_bd hE
  have hST : Calls Tryz.prog 28 #[v, u, .int .i64 a] w (StatePost l s a w) := by
    obtain ⟨hR, hst, ha0, ha1, -⟩ := givenR_zero (errR_zero hE).2.1
    obtain ⟨hlen, hbd⟩ := startsN_zero hst
    exact refState v u l s a w hR hl hs hlen hbd (by omega)
  obtain ⟨A, cc, rfl, hA1, hA2, -⟩ := hl.open_
  obtain ⟨A1, c1, rfl, hB1, hB2, -⟩ := hs.open_
  unfold maxLen at hA2 hB2
  have HE := Lib.hid hE
  clear hl hs hE
  have HLe : Hid (∀ ov ms w1, TasksAt w1 w1.heap.size ov ms → norms ms = stateN l s a → Calls Tryz.prog 29 #[ov, .int .i64 c, .int .i64 p] w1 (FurPost (leastN (stateN l s a) c p) w1)) := fun ov ms w1 hT hN => refLeastS ov l ms c p s a w1 HE.out hT hN
  generalize hr : leastN (stateN l s a) c p = r at *
  obtain ⟨rn, rl⟩ := r
  clear hr
  simp only at h3 h4
  have hw : IntKind.i64.wrap (a + rn) = a + rn := IntWalk.i64_in _ (by omega)
  go_enter Tryz.func12, Tryz.ntmps12
  go_wp2_with fail
  refine hST.mono ?_
  rintro e w1 ⟨hb1, ov, ms, rfl, hT, hN⟩
  have hL := HLe.out ov ms w1 hT hN
  obtain ⟨A3, c3, rfl, -, -, -⟩ := hT.open_
  clear hT hN hST
  go_wp2_with fail
  refine hL.mono ?_
  rintro e w2 ⟨hb2, -, A2, cap2, rfl, -⟩
  go_wp2_with fail
  go_ret
  exact ⟨rfl, hb1.trans (hb2.mono hb1.size)⟩

set_option maxRecDepth 100000 in
set_option maxHeartbeats 4000000 in
theorem refLater45 (v u : Value) (l : List Task) (c p : Int) (s : List Int) (a : Int) (w : World) (hE : errR l c p s a = 0) (hl : TasksAt w w.heap.size v l) (hs : IntsAt w w.heap.size u s) :
    Calls Tryz.prog 13 #[v, .int .i64 c, .int .i64 p, u, .int .i64 a] w fun e w' => e = .returned (.int .i64 (a + (leastN (stateN l s a) c p).1 - max2 (lenTo l s l.length) a)) ∧ Below w.heap.size w w' := by
  obtain ⟨h1, h2, h3, h4⟩ := err_bd hE
  have HEn : Hid (∀ w1, Below w.heap.size w w1 → Calls Tryz.prog 12 #[v, .int .i64 c, .int .i64 p, u, .int .i64 a] w1 fun e w' => e = .returned (.int .i64 (a + (leastN (stateN l s a) c p).1)) ∧ Below w1.heap.size w1 w') := fun w1 hb => refEnd45 v u l c p s a w1 hE ((hl.below hb (Nat.le_refl _)).mono hb.size) ((hs.below hb (Nat.le_refl _)).mono hb.size)
  obtain ⟨hR, hst, ha0, ha1, -⟩ := givenR_zero (errR_zero hE).2.1
  obtain ⟨hlen, hbd⟩ := startsN_zero hst
  have hLn := refLen v u l s w.heap.size w hR hl hs hlen hbd
  have hx := lenTo_bd hR hlen hbd l.length (Nat.le_refl _)
  obtain ⟨A, cc, rfl, hA1, hA2, -⟩ := hl.open_
  obtain ⟨A1, c1, rfl, hB1, hB2, -⟩ := hs.open_
  unfold maxLen at hA2 hB2
  clear hl hs hR hst hlen hbd hE
  generalize (leastN (stateN l s a) c p).1 = rn at *
  generalize lenTo l s l.length = x at *
  by_cases hax : x < a
  · have hd : decide (x < a) = true := decide_eq_true hax
    have HM : Hid (max2 x a = a) := by unfold Hid max2; split <;> omega
    have hw1 : IntKind.i64.wrap (a + rn - a) = a + rn - a := IntWalk.i64_in _ (by omega)
    go_enter Tryz.func13, Tryz.ntmps13
    go_wp2_with fail
    refine hLn.mono ?_
    rintro e w1 ⟨rfl, q, rfl⟩
    go_wp2_with fail
    refine (HEn.out _ (below_drewN (Below.refl _ _) q)).mono ?_
    rintro e w2 ⟨rfl, hb2⟩
    go_wp2_with fail
    go_ret
    exact ⟨by rw [HM.out]; rfl, (below_drewN (Below.refl _ _) q).trans hb2⟩
  · have hd : decide (x < a) = false := decide_eq_false hax
    have HM : Hid (max2 x a = x) := by unfold Hid max2; split <;> omega
    have hw1 : IntKind.i64.wrap (a + rn - x) = a + rn - x := IntWalk.i64_in _ (by omega)
    go_enter Tryz.func13, Tryz.ntmps13
    go_wp2_with fail
    refine hLn.mono ?_
    rintro e w1 ⟨rfl, q, rfl⟩
    go_wp2_with fail
    refine (HEn.out _ (below_drewN (Below.refl _ _) q)).mono ?_
    rintro e w2 ⟨rfl, hb2⟩
    go_wp2_with fail
    go_ret
    exact ⟨by rw [HM.out]; rfl, (below_drewN (Below.refl _ _) q).trans hb2⟩

theorem again_snoc {l : List Task} {s : List Int} {a : Int} {r : List Int} {k : Nat} : (List.range (k + 1)).map (agI l s a r) = (List.range k).map (agI l s a r) ++ [agI l s a r k] := by
  rw [List.range_succ, List.map_append, List.map_singleton]

/-- The new starts so far. -/
structure AgSt (W w : World) (l : List Task) (s : List Int) (a : Int) (r : List Int) (k : Nat) (v : Value) : Prop where
  bel : Below W.heap.size W w
  own : w.ownsRow W.heap.size 3 1 v k (((List.range k).map (agI l s a r)).map (Value.int .i64))
theorem AgSt.push {W w w' : World} {l : List Task} {s : List Int} {a : Int} {r : List Int} {k : Nat} {v nv : Value} {x : Int} (h : AgSt W w l s a r k v)
    (ho : w'.ownsRow W.heap.size 3 1 nv (k + 1) (((List.range k).map (agI l s a r)).map (Value.int .i64) ++ [.int .i64 x])) (hg : w.grownBy w' v.ownBlock) (hx : agI l s a r k = x) : AgSt W w' l s a r (k + 1) nv := by
  refine ⟨h.bel.grown hg h.bel.size (fun k hk => (h.own.lt k hk).1), ?_⟩
  rw [again_snoc, List.map_append, hx]
  exact ho

set_option maxRecDepth 100000 in
set_option maxHeartbeats 8000000 in
theorem refAgain45 (v u : Value) (l : List Task) (c p : Int) (s : List Int) (a : Int) (w : World) (hE : errR l c p s a = 0) (hl : TasksAt w w.heap.size v l) (hs : IntsAt w w.heap.size u s) :
    Calls Tryz.prog 11 #[v, .int .i64 c, .int .i64 p, u, .int .i64 a] w fun e w' => Below w.heap.size w w' ∧ ∃ A cap, e = .returned (.slice A l.length cap) ∧ w'.ownsRow w.heap.size 3 1 (.slice A l.length cap) l.length ((againN l c p s a).map (Value.int .i64)) := by
  obtain ⟨h1, h2, h3, h4⟩ := err_bd hE
  obtain ⟨hv, hg, hn⟩ := errR_zero hE
  obtain ⟨hR, hc0, -, hp0, -⟩ := valid_right hv
  obtain ⟨-, hst, ha0, ha1, -⟩ := givenR_zero hg
  obtain ⟨hlen, hbd⟩ := startsN_zero hst
  have h8 := hR.len
  have hST := refState v u l s a w hR hl hs hlen hbd (by omega)
  obtain ⟨-, hrl, hrb, -⟩ := least_keeps ((sub_state (s := s) (a := a) hR).right hR) ⟨hc0, hp0⟩ hn
  have HEnd : Hid (∀ i w1, i < l.length → Below w.heap.size w w1 → Calls Tryz.prog 30 #[v, u, .int .i64 a, .int .i64 i] w1 fun e w' => e = .returned (.bool (!liveB l s a i)) ∧ ∃ q, w1.drewN q = w') := fun i w1 hi hb => by
    have := refEnded v u l s a i w.heap.size w1 hR (hl.below hb (Nat.le_refl _)) (hs.below hb (Nat.le_refl _)) hlen hbd hi
    have e : decide (endN l s i ≤ a) = !liveB l s a i := by
      unfold liveB
      rw [Bool.eq_iff_iff, Bool.not_eq_true', decide_eq_false_iff_not, decide_eq_true_iff]
      omega
    rwa [e] at this
  have HLe : Hid (∀ ov ms w1, TasksAt w1 w1.heap.size ov ms → norms ms = stateN l s a → Calls Tryz.prog 29 #[ov, .int .i64 c, .int .i64 p] w1 (FurPost (leastN (stateN l s a) c p) w1)) := fun ov ms w1 hT hN => refLeastS ov l ms c p s a w1 hE hT hN
  have HAg : Hid (againN l c p s a = (List.range l.length).map (agI l s a (leastN (stateN l s a) c p).2)) := rfl
  have HLv : Hid (∀ r k, k < l.length → liveB l s a k = true → agI l s a r k = a + atI r (cntM l s a k)) := fun r k hk h => again_liveM hR hk h
  have HDd : Hid (∀ r k, k < l.length → liveB l s a k = false → agI l s a r k = atI s k) := fun r k hk h => again_deadM hR hk h
  have HLt : Hid (∀ k, k < l.length → liveB l s a k = true → cntM l s a k < (stateN l s a).length) := fun k hk h => by
    rw [state_len]
    exact (live_atM hk h).1
  have HsLen := Lib.hid hlen
  obtain ⟨A, cc, rfl, hA1, hA2, -⟩ := hl.open_
  obtain ⟨A1, c1, rfl, hB1, hB2, hBc⟩ := hs.open_
  have HSt : Hid (∀ (k : Nat), k < l.length → ∃ b1 off1, A1 = some ⟨b1, off1, none⟩ ∧ ∀ w', Below w.heap.size w w' → w'.cell? ⟨b1, off1 + k, none⟩ = some (.int .i64 (atI s k))) := fun k hk => by
    obtain ⟨b1, off1, e, hb, hc⟩ := hBc k (by omega)
    exact ⟨b1, off1, e, fun w' hb' => by rw [atI_get (by omega)]; exact (hb'.cell (p := ⟨b1, off1 + k, none⟩) hb).trans (hc k (by omega))⟩
  unfold maxLen at hA2 hB2
  have hsl : (s.length : Int) = (l.length : Int) := by omega
  have Hsl := Lib.hid hsl
  clear hl hs hE hR hv hg hn hst hbd hsl h3 h4 hBc
  generalize hr : leastN (stateN l s a) c p = r at *
  obtain ⟨rn, rl⟩ := r
  clear hr
  simp only at hrl hrb HAg
  have HRb : Hid (∀ j (_ : j < rl.length), 0 ≤ rl[j] ∧ rl[j] ≤ 80000) := fun j hj => hrb _ (List.getElem_mem hj)
  have HRl := Lib.hid hrl
  clear hrl hrb hlen
  go_enter Tryz.func11, Tryz.ntmps11
  go_wp2_with fail
  refine hST.mono ?_
  rintro e w1 ⟨hb1, ov, ms, rfl, hT, hN⟩
  have hL := HLe.out ov ms w1 hT hN
  obtain ⟨A3, c3, rfl, -, -, -⟩ := hT.open_
  clear hT hN hST
  go_wp2_with fail
  refine hL.mono ?_
  rintro e w2 ⟨hb2, -, A2, cap2, rfl, hown⟩
  have hbx2 := hb1.trans (hb2.mono hb1.size)
  have HRow : Hid (IntsAt w2 w2.heap.size (.slice A2 rl.length cap2) rl) := RowAt.of_own hown
  clear hown hL hb1 hb2
  have HRc : Hid (∀ j (_ : j < rl.length), ∃ b off, A2 = some ⟨b, off, none⟩ ∧ ∀ w', Below w2.heap.size w2 w' → w'.cell? ⟨b, off + j, none⟩ = some (.int .i64 rl[j])) := fun j hj => by
    obtain ⟨A', c', e', -, -, h⟩ := HRow.out.open_
    injection e' with e1 _ e2
    subst e1 e2
    obtain ⟨b, off, e, hb, hc⟩ := h j hj
    exact ⟨b, off, e, fun w' hb' => (hb'.cell (p := ⟨b, off + j, none⟩) hb).trans (hc j hj)⟩
  have hrc : rl.length ≤ cap2 := by
    obtain ⟨A', c', e', h, -, -⟩ := HRow.out.open_
    injection e' with e1 _ e2
    subst e1 e2
    exact h
  have hrc2 : cap2 ≤ 2 ^ 63 - 1 := by
    obtain ⟨A', c', e', -, h, -⟩ := HRow.out.open_
    injection e' with e1 _ e2
    subst e1 e2
    exact h
  have H0 : Hid (AgSt w2 w2 l s a rl 0 (.slice none 0 0)) := ⟨Below.refl _ _, World.ownsRow_nil _ _ _ _⟩
  have HC0 : Hid (cntM l s a 0 = 0) := rfl
  have hsz2 := hbx2.size
  clear HRow HLe
  go_wp2_with fail
  go_loopw [13, 14, 15] (fun ov nx ix wr => ∃ (k : Nat) (A8 : Option Addr) (c8 : Nat), k ≤ l.length ∧ ix = .int .i64 k ∧ nx = .int .i64 (cntM l s a k) ∧ ov = .slice A8 k c8 ∧ Hid (AgSt w2 wr l s a rl k (.slice A8 k c8))) (fun _ _ ix _ => l.length - (intOf ix).toNat)
  case atStart => exact ⟨0, none, 0, Nat.zero_le _, rfl, by rw [HC0.out]; rfl, rfl, H0⟩
  case round =>
    clear H0 HC0
    obtain ⟨k, A8, c8, hk, rfl, rfl, rfl, HSS⟩ := hrel
    have k1 : (0 : Int) ≤ (k : Int) := Int.natCast_nonneg _
    by_cases hkl : k < l.length
    · have HbW : Hid (Below w.heap.size w wr) := hbx2.trans (HSS.out.bel.mono hsz2)
      have hEk := HEnd.out k wr hkl HbW.out
      have i2 : (k : Int) < (l.length : Int) := by omega
      cases hlv : liveB l s a k with
      | false =>
        have HV := Lib.hid (HDd.out rl k hkl hlv)
        have HCn : Hid (cntM l s a (k + 1) = cntM l s a k) := by unfold Hid; rw [cntM_succ, hlv]; simp
        rw [hlv] at hEk
        obtain ⟨b1, off1, rfl, hs1⟩ := HSt.out k hkl
        have i3 : (k : Int) < (s.length : Int) := by have := Hsl.out; omega
        clear hlv
        generalize cntM l s a k = cn at *
        generalize atI s k = sx at *
        go_wp2_with fail
        refine hEk.mono ?_
        rintro e wt ⟨rfl, q, rfl⟩
        have HS1 : Hid (AgSt w2 (wr.drewN q) l s a rl k (.slice A8 k c8)) := ⟨below_drewN HSS.out.bel q, own_drewN HSS.out.own q⟩
        have hbw := below_drewN HbW.out q
        clear hEk HSS HbW
        generalize wr.drewN q = wt at *
        have z1 := hs1 _ hbw
        have z2 := fun o => hs1 _ (hbw.alloc hbw.size o)
        go_wp2_with (at_builtin; refine wpList_pushN _ rfl (.tmp 37) (.tmp 42) 23 rfl w2.heap.size 3 info_int Tryz.underlying23 rfl _ k _ rfl HS1.out.own (.int .i64 sx) rfl wt.heap.size (by simp) rfl (by unfold maxLen; omega) (by omega) HS1.out.bel.size ?_; intro g3 cap6 w6 hown6 hg6 hbg6 hgg6)
        have HS6 := Lib.hid (HS1.out.push hown6 hg6 HV.out)
        clear hown6 hg6 hgg6 z1 z2 hs1
        go_wp2_with fail
        go_roundw
        case rel => exact ⟨k + 1, _, _, by omega, by go_num, by rw [HCn.out], rfl, HS6⟩
        case measure => simp [intOf]; omega
      | true =>
        have HV := Lib.hid (HLv.out rl k hkl hlv)
        have HCn : Hid (cntM l s a (k + 1) = cntM l s a k + 1) := by unfold Hid; rw [cntM_succ, hlv]; simp
        have hcl : cntM l s a k < rl.length := by rw [HRl.out]; exact HLt.out k hkl hlv
        rw [hlv] at hEk
        obtain ⟨b1, off1, rfl, hs1⟩ := HRc.out _ hcl
        obtain ⟨r0, r1⟩ := HRb.out _ hcl
        have HVr : Hid (atI rl (cntM l s a k) = rl[cntM l s a k]) := atI_get hcl
        have hV2 := HV.out
        rw [HVr.out] at hV2
        have HV2 := Lib.hid hV2
        clear hlv HV HVr hV2
        generalize rl[cntM l s a k] = rv at *
        generalize cntM l s a k = cn at *
        have c0 : (0 : Int) ≤ (cn : Int) := Int.natCast_nonneg _
        have c1' : (cn : Int) < (rl.length : Int) := by omega
        have hwp : IntKind.i64.wrap (a + rv) = a + rv := IntWalk.i64_in _ (by omega)
        go_wp2_with fail
        refine hEk.mono ?_
        rintro e wt ⟨rfl, q, rfl⟩
        have HS1 : Hid (AgSt w2 (wr.drewN q) l s a rl k (.slice A8 k c8)) := ⟨below_drewN HSS.out.bel q, own_drewN HSS.out.own q⟩
        clear hEk HSS HbW
        generalize wr.drewN q = wt at *
        have z1 := hs1 _ HS1.out.bel
        have z2 := fun o => hs1 _ (HS1.out.bel.alloc HS1.out.bel.size o)
        go_wp2_with (at_builtin; refine wpList_pushN _ rfl (.tmp 44) (.tmp 51) 23 rfl w2.heap.size 3 info_int Tryz.underlying23 rfl _ k _ rfl HS1.out.own (.int .i64 (a + rv)) rfl wt.heap.size (by simp) rfl (by unfold maxLen; omega) (by omega) HS1.out.bel.size ?_; intro g3 cap6 w6 hown6 hg6 hbg6 hgg6)
        have HS6 := Lib.hid (HS1.out.push hown6 hg6 HV2.out)
        clear hown6 hg6 hgg6 z1 z2 hs1
        go_wp2_with fail
        go_roundw
        case rel => exact ⟨k + 1, _, _, by omega, by go_num, by rw [HCn.out]; go_num, rfl, HS6⟩
        case measure => simp [intOf]; omega
    · obtain rfl : k = l.length := by omega
      have HB := Lib.hid (hbx2.trans (HSS.out.bel.mono hsz2))
      have HO : Hid (wr.ownsRow w.heap.size 3 1 (.slice A8 l.length c8) l.length ((againN l c p s a).map (Value.int .i64))) := by
        unfold Hid
        rw [HAg.out]
        exact own_mono HSS.out.own hsz2
      go_wp2_with fail
      go_ret
      exact ⟨HB.out, A8, c8, rfl, HO.out⟩

end Go.Proofs.YtfcfphamecbcgaaGreat

/- The law ReplanAgain: the walk. -/
namespace Go.Proofs.YtfcfphamecbcgaaGreat
open Go.RowKit Go.Shelf

set_option maxRecDepth 100000 in
set_option maxHeartbeats 8000000 in
theorem lawReplanAgain (v u : Value) (l : List Task) (c p : Int) (s : List Int) (a : Int) (w : World) (hl : TasksAt w w.heap.size v l) (hs : IntsAt w w.heap.size u s) (hw : Wide s) :
    Calls Tryz.prog 3 #[v, .int .i64 c, .int .i64 p, u, .int .i64 a] w fun e w' => e = .returned (.bool true) ∧ Below w.heap.size w w' := by
  have hA := lawAwake45 w
  have HT : Hid (∀ w1, Below w.heap.size w w1 → TasksAt w1 w1.heap.size v l) := fun w1 hb => (hl.below hb (Nat.le_refl _)).mono hb.size
  have HS : Hid (∀ w1, Below w.heap.size w w1 → IntsAt w1 w1.heap.size u s) := fun w1 hb => (hs.below hb (Nat.le_refl _)).mono hb.size
  have hLong := fun w1 hb => lawLarge v l w1 (HT.out w1 hb)
  have HAg : Hid (∀ w1, Below w.heap.size w w1 → Calls Tryz.prog 6 #[v, .int .i64 c, .int .i64 p, u, .int .i64 a] w1 (AgainPost l c p s a w1)) := fun w1 hb => rpAgain v u l c p s a w1 (HT.out w1 hb) (HS.out w1 hb) hw
  have HEn : Hid (∀ w1, Below w.heap.size w w1 → Calls Tryz.prog 7 #[v, .int .i64 c, .int .i64 p, u, .int .i64 a] w1 (EndPost l c p s a w1)) := fun w1 hb => rpEnd v u l c p s a w1 (HT.out w1 hb) (HS.out w1 hb) hw
  have HLa : Hid (∀ w1, Below w.heap.size w w1 → Calls Tryz.prog 8 #[v, .int .i64 c, .int .i64 p, u, .int .i64 a] w1 (LaterPost l c p s a w1)) := fun w1 hb => rpLater v u l c p s a w1 (HT.out w1 hb) (HS.out w1 hb) hw
  have HLi : Hid (∀ w1, Below w.heap.size w w1 → Calls Tryz.prog 9 #[v, .int .i64 c, .int .i64 p, u, .int .i64 a] w1 fun e w' => e = .returned (.int .i64 (errR l c p s a)) ∧ Below w1.heap.size w1 w') := fun w1 hb => refLimits45 v u l c p s a w1 (HT.out w1 hb) (HS.out w1 hb) hw
  have HRa : Hid (errR l c p s a = 0 → ∀ w1, Below w.heap.size w w1 → Calls Tryz.prog 11 #[v, .int .i64 c, .int .i64 p, u, .int .i64 a] w1 fun e w' => Below w1.heap.size w1 w' ∧ ∃ A cap, e = .returned (.slice A l.length cap) ∧ w'.ownsRow w1.heap.size 3 1 (.slice A l.length cap) l.length ((againN l c p s a).map (Value.int .i64))) := fun hE w1 hb => refAgain45 v u l c p s a w1 hE (HT.out w1 hb) (HS.out w1 hb)
  have HRe : Hid (errR l c p s a = 0 → ∀ w1, Below w.heap.size w w1 → Calls Tryz.prog 12 #[v, .int .i64 c, .int .i64 p, u, .int .i64 a] w1 fun e w' => e = .returned (.int .i64 (a + (leastN (stateN l s a) c p).1)) ∧ Below w1.heap.size w1 w') := fun hE w1 hb => refEnd45 v u l c p s a w1 hE (HT.out w1 hb) (HS.out w1 hb)
  have HRl : Hid (errR l c p s a = 0 → ∀ w1, Below w.heap.size w w1 → Calls Tryz.prog 13 #[v, .int .i64 c, .int .i64 p, u, .int .i64 a] w1 fun e w' => e = .returned (.int .i64 (a + (leastN (stateN l s a) c p).1 - max2 (lenTo l s l.length) a)) ∧ Below w1.heap.size w1 w') := fun hE w1 hb => refLater45 v u l c p s a w1 hE (HT.out w1 hb) (HS.out w1 hb)
  obtain ⟨A, cc, rfl, hA1, hA2, -⟩ := hl.open_
  obtain ⟨A1, c1, rfl, hB1, hB2, -⟩ := hs.open_
  unfold maxLen at hA2 hB2
  clear hl hs hw HT HS
  cases hlg : largeB l with
  | true =>
    rw [hlg] at hLong
    clear hlg
    go_enter Tryz.func3, Tryz.ntmps3
    go_wp2_with (first
      | (go_at_call 4; refine hA.mono ?_; rintro e w1 ⟨rfl, hb1⟩)
      | (go_at_call 5; refine (hLong _ hb1).mono ?_; rintro e w2 ⟨rfl, hb2⟩))
    go_ret
    exact ⟨rfl, hb1.trans (hb2.mono hb1.size)⟩
  | false =>
    rw [hlg] at hLong
    clear hlg
    by_cases h20 : 20 < s.length
    · have h20b : decide ((20 : Int) < s.length) = true := by simp; omega
      go_enter Tryz.func3, Tryz.ntmps3
      go_wp2_with (first
        | (go_at_call 4; refine hA.mono ?_; rintro e w1 ⟨rfl, hb1⟩)
        | (go_at_call 5; refine (hLong _ hb1).mono ?_; rintro e w2 ⟨rfl, hb2⟩))
      go_ret
      exact ⟨rfl, hb1.trans (hb2.mono hb1.size)⟩
    have h20b : decide ((20 : Int) < s.length) = false := by simp; omega
    clear h20
    go_enter Tryz.func3, Tryz.ntmps3
    go_wp2_with (first
      | (go_at_call 4; refine hA.mono ?_; rintro e w1 ⟨rfl, hb1⟩)
      | (go_at_call 5; refine (hLong _ hb1).mono ?_; rintro e w2 ⟨rfl, hb2⟩; have hbx := hb1.trans (hb2.mono hb1.size); clear hb1 hb2 hA hLong))
    refine (HAg.out _ hbx).mono ?_
    rintro e w3 ⟨hb3, hpost⟩
    have hbx3 := hbx.trans (hb3.mono hbx.size)
    have hEn := HEn.out _ hbx3
    rcases hpost with ⟨hg, rfl⟩ | ⟨hg, va, rfl, hown⟩
    · have Hg := Lib.hid hg
      generalize hx : errR l c p s a = x at *
      have HX := Lib.hid hx
      have hxb : (x != 0) = true := bne_iff_ne.2 hg
      have hxe : (x == x) = true := beq_self_eq_true x
      clear hg hx HRa HRe HRl
      go_wp2_with fail
      refine hEn.mono ?_
      rintro e w4 ⟨hb4, rfl⟩
      have hbx4 := hbx3.trans (hb4.mono hbx3.size)
      rw [HX.out, if_neg Hg.out]
      clear hEn
      go_wp2_with fail
      refine (HLa.out _ hbx4).mono ?_
      rintro e w5 ⟨hb5, rfl⟩
      have hbx5 := hbx4.trans (hb5.mono hbx4.size)
      rw [HX.out, if_neg Hg.out]
      go_wp2_with fail
      refine (HLi.out _ hbx5).mono ?_
      rintro e w6 ⟨rfl, hb6⟩
      go_wp2_with fail
      go_ret
      exact ⟨rfl, hbx5.trans (hb6.mono hbx5.size)⟩
    · have Hg := Lib.hid hg
      have HRa2 := Lib.hid (HRa.out hg)
      have HRe2 := Lib.hid (HRe.out hg)
      have HRl2 := Lib.hid (HRl.out hg)
      have HRow : Hid (∀ w', Below w3.heap.size w3 w' → IntsAt w' w'.heap.size va (againN l c p s a)) := fun w' hb => ((RowAt.of_own hown).below hb (Nat.le_refl _)).mono hb.size
      obtain ⟨A3, c3, rfl, hr1, hr2, -⟩ := (RowAt.of_own hown).open_
      unfold maxLen at hr2
      have hal : (againN l c p s a).length = l.length := by simp [againN]
      rw [hal] at HRow hr1 ⊢
      clear hown hg HRa HRe HRl hal
      generalize againN l c p s a = ag at *
      go_wp2_with fail
      refine hEn.mono ?_
      rintro e w4 ⟨hb4, rfl⟩
      have hbx4 := hbx3.trans (hb4.mono hbx3.size)
      have hb34 := hb4
      rw [Hg.out, if_pos rfl]
      clear hEn
      go_wp2_with fail
      refine (HLa.out _ hbx4).mono ?_
      rintro e w5 ⟨hb5, rfl⟩
      have hbx5 := hbx4.trans (hb5.mono hbx4.size)
      have hb35 := hb34.trans (hb5.mono hb34.size)
      rw [Hg.out, if_pos rfl]
      go_wp2_with fail
      refine (HLi.out _ hbx5).mono ?_
      rintro e w6 ⟨rfl, hb6⟩
      have hbx6 := hbx5.trans (hb6.mono hbx5.size)
      have hb36 := hb35.trans (hb6.mono hb35.size)
      rw [Hg.out]
      generalize a + (leastN (stateN l s a) c p).1 - max2 (lenTo l s l.length) a = m1 at *
      generalize a + (leastN (stateN l s a) c p).1 = m2 at *
      have e1 : (m1 == m1) = true := beq_self_eq_true _
      have e2 : (m2 == m2) = true := beq_self_eq_true _
      clear HAg HEn HLa HLi hb3 hb4 hb5 hb6
      go_wp2_with fail
      refine (HRa2.out _ hbx6).mono ?_
      rintro e w7 ⟨hb7, A7, c7, rfl, hown7⟩
      have hbx7 := hbx6.trans (hb7.mono hbx6.size)
      have hb37 := hb36.trans (hb7.mono hb36.size)
      have hEq := equalInt _ _ ag ag w7.heap.size w7 (HRow.out _ hb37) (RowAt.of_own hown7)
      rw [show decide (ag = ag) = true from decide_eq_true rfl] at hEq
      clear hown7
      go_wp2_with fail
      refine hEq.mono ?_
      rintro e w8 ⟨rfl, q, rfl⟩
      have hbx8 := below_drewN hbx7 q
      clear hEq
      go_wp2_with fail
      refine (HRe2.out _ hbx8).mono ?_
      rintro e w9 ⟨rfl, hb9⟩
      have hbx9 := hbx8.trans (hb9.mono hbx8.size)
      go_wp2_with fail
      refine (HRl2.out _ hbx9).mono ?_
      rintro e w10 ⟨rfl, hb10⟩
      go_wp2_with fail
      go_ret
      exact ⟨rfl, hbx9.trans (hb10.mono hbx9.size)⟩

end Go.Proofs.YtfcfphamecbcgaaGreat

/- ReplanAgain: for every input the law returns true, and its arguments read as they did. -/
namespace Go.Proofs.YtfcfphamecbcgaaGreat
open Go.ChangeShapes Go.WideShapes Go.ChangeAt Go.RowKit

set_option maxRecDepth 100000 in
theorem replanAgain_lifted (os : Os) (started : os.Started) (H : Type) (enc : TypeId × Value → H) :
    ReturnsInHanded {} Tryz.checked os 3 .any (Rows.replanAgainSpec.pre6 enc Tryz.prog Tryz.f3 Rows.replanAgainRow.domain false) (Rows.replanAgainSpec.post enc Tryz.prog Tryz.f3 false true false false) := by
  refine law_lifted started (by kernel_rfl) Tryz.func3 rfl (by kernel_rfl) ?_ ?_ (ChangeSpec.witness6 (enc := enc) (C := Tryz.checked) false ⟨#[], #[.slice none 0 0, .int .i64 0, .int .i64 0, .slice none 0 0, .int .i64 0], []⟩ 8 (by kernel_rfl) (by kernel_rfl) (by kernel_rfl) (by kernel_rfl)) ?_
  · rw [Tryz.params3]
    intro t ht
    simp only [List.mem_cons, List.not_mem_nil, or_false] at ht
    rcases ht with rfl | rfl | rfl | rfl | rfl <;> exact ⟨by kernel_rfl, of_decide_eq_true (by kernel_rfl)⟩
  · intro ds hds
    match ds, hds with
    | [d0, d1, d2, d3, d4], _ => exact ⟨rfl, rfl, rfl⟩
  · intro W base args ds ps hval hA
    rw [Tryz.params3] at hA hval
    obtain ⟨v0, vs0, d0, ds0, p0, q0, hargs, rfl, rfl, h0, r0⟩ := trodAll_cons hA
    obtain ⟨v1, vs1, d1, ds1, p1, q1, rfl, rfl, rfl, h1, r1⟩ := trodAll_cons r0
    obtain ⟨v2, vs2, d2, ds2, p2, q2, rfl, rfl, rfl, h2, r2⟩ := trodAll_cons r1
    obtain ⟨v3, vs3, d3, ds3, p3, q3, rfl, rfl, rfl, h3, r3⟩ := trodAll_cons r2
    obtain ⟨v4, vs4, d4, ds4, p4, q4, rfl, rfl, rfl, h4, r4⟩ := trodAll_cons r3
    obtain ⟨rfl, rfl, rfl⟩ := trodAll_nil r4
    obtain rfl : args = #[v0, v1, v2, v3, v4] := by cases args; simp_all
    obtain ⟨a0, n0, c0, rfl⟩ := okWide_slice Tryz.underlying22 (hval 0 22 v0 rfl rfl)
    obtain ⟨fuel0, hf0⟩ := h0
    obtain ⟨x0, hx0⟩ := tasks_of_trod hf0
    obtain ⟨x1, rfl, -, -, wf1⟩ := open_int Tryz.underlying3 (hval 1 3 v1 rfl rfl) h1
    clear wf1
    obtain ⟨x2, rfl, -, -, wf2⟩ := open_int Tryz.underlying3 (hval 2 3 v2 rfl rfl) h2
    clear wf2
    obtain ⟨a3, n3, c3, rfl⟩ := okWide_slice Tryz.underlying23 (hval 3 23 v3 rfl rfl)
    obtain ⟨fuel3, hf3⟩ := h3
    obtain ⟨x3, hx3, hw3⟩ := ints_of_trod hf3
    obtain ⟨x4, rfl, -, -, wf4⟩ := open_int Tryz.underlying3 (hval 4 3 v4 rfl rfl) h4
    clear wf4
    exact lawReplanAgain _ _ x0 x1 x2 x3 x4 W hx0 hx3 hw3

theorem replanAgain_holds : Rows.ReplanAgainSaid :=
  OpenClaim.holds_of_wide 3 Tryz.f3 rfl rfl rfl rfl rfl rfl rfl ⟨rfl, rfl, rfl, rfl, rfl⟩ rfl rfl rfl rfl rfl (by kernel_rfl) Tryz.func3 (by kernel_rfl)
    (of_decide_eq_true (by kernel_rfl)) (by unfold Func.isWrapper; first | (rw [if_pos (by decide +kernel)]; kernel_rfl) | (rw [if_neg (by decide +kernel)]; exact ⟨rfl, rfl⟩))
    (fun os started H enc _ => replanAgain_lifted os started H enc)
#print axioms replanAgain_holds

end Go.Proofs.YtfcfphamecbcgaaGreat
