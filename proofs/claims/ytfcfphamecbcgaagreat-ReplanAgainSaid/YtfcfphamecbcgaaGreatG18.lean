/- Parts of the proof, laid into one text: RpTop, RpAgain. -/
import Derived.Test.YtfcfphamecbcgaaGreatG13
import Derived.Test.YtfcfphamecbcgaaGreatG16
import Derived.Test.YtfcfphamecbcgaaGreatG8

/- replan.State, least, End, Later. -/
namespace Go.Proofs.YtfcfphamecbcgaaGreat
open Go.RowKit Go.Shelf

theorem results_tmp4 {fn : Func} {t u v x : Tmp} (h : fn.results = #[.tmp t, .tmp u, .tmp v, .tmp x]) (tmps : Array Value) (P : Program) (w : World) :
    (results fn tmps).run P w = .ok (.tuple #[tmps.getD t undef, tmps.getD u undef, tmps.getD v undef, tmps.getD x undef]) w := by
  simp [results, h]

/-- What State gives. -/
def StateTop (l : List Task) (s : List Int) (a : Int) (w : World) (e : Ending) (w' : World) : Prop :=
  Below w.heap.size w w' ∧ ((givenR l s a ≠ 0 ∧ e = .returned (.tuple #[.slice none 0 0, .int .i64 (givenR l s a)])) ∨
    (givenR l s a = 0 ∧ ∃ ov ms, e = .returned (.tuple #[ov, .int .i64 0]) ∧ TasksAt w' w'.heap.size ov ms ∧ norms ms = stateN l s a))

set_option maxRecDepth 100000 in
set_option maxHeartbeats 4000000 in
theorem rpStateTop (v u : Value) (l : List Task) (s : List Int) (a : Int) (w : World) (hl : TasksAt w w.heap.size v l) (hs : IntsAt w w.heap.size u s) (hw : Wide s) :
    Calls Tryz.prog 14 #[v, u, .int .i64 a] w (StateTop l s a w) := by
  have hG := rpGiven v u l s a w hl hs hw
  have HT : Hid (∀ w1, Below w.heap.size w w1 → TasksAt w1 w1.heap.size v l) := fun w1 hb => (hl.below hb (Nat.le_refl _)).mono hb.size
  have HS : Hid (∀ w1, Below w.heap.size w w1 → IntsAt w1 w1.heap.size u s) := fun w1 hb => (hs.below hb (Nat.le_refl _)).mono hb.size
  obtain ⟨A, cc, rfl, hA1, hA2, -⟩ := hl.open_
  obtain ⟨A1, c1, rfl, hB1, hB2, -⟩ := hs.open_
  unfold maxLen at hA2 hB2
  clear hl hs hw
  by_cases hg : givenR l s a = 0
  · obtain ⟨hR, hst, ha0, ha1, ho⟩ := givenR_zero hg
    obtain ⟨hlen, hbd⟩ := startsN_zero hst
    have HSt : Hid (∀ w1, Below w.heap.size w w1 → Calls Tryz.prog 33 #[.slice A l.length cc, .slice A1 s.length c1, .int .i64 a] w1 (StatePost l s a w1)) := fun w1 hb => rpState _ _ l s a w1 hR (HT.out w1 hb) (HS.out w1 hb) hlen hbd (by omega)
    have Hg := Lib.hid hg
    rw [hg] at hG
    clear hg hR hst ho hlen hbd
    go_enter Tryz.func14, Tryz.ntmps14
    go_wp2_with (go_at_call 32; refine hG.mono ?_; rintro e w1 ⟨rfl, hb1⟩)
    refine (HSt.out _ hb1).mono ?_
    rintro e w2 ⟨hb2, ov, ms, rfl, hT2, hN2⟩
    have H2 := Lib.hid (And.intro hT2 hN2)
    clear hT2 hN2
    go_wp2_with fail
    refine bodyPost_ret (results_tmp2 rfl _ _ _) (by rfl) ?_
    exact ⟨hb1.trans (hb2.mono hb1.size), .inr ⟨Hg.out, ov, ms, rfl, H2.out.1, H2.out.2⟩⟩
  · have Hg := Lib.hid hg
    generalize hx : givenR l s a = x at *
    have hb : (x != 0) = true := bne_iff_ne.2 hg
    have Hx := Lib.hid hx
    clear hg hx
    go_enter Tryz.func14, Tryz.ntmps14
    go_wp2_with (go_at_call 32; refine hG.mono ?_; rintro e w1 ⟨rfl, hb1⟩)
    refine bodyPost_ret (results_tmp2 rfl _ _ _) (by rfl) ?_
    exact ⟨hb1, .inl ⟨by rw [Hx.out]; exact Hg.out, by rw [Hx.out]; rfl⟩⟩

/-- The error's number of tasks, limits, starts and a time. -/
noncomputable def errR (l : List Task) (c p : Int) (s : List Int) (a : Int) : Int :=
  if validB l c p = true then (if givenR l s a = 0 then (if (stateN l s a).any (tooMuch c p) = true then 22 else 0) else givenR l s a) else 1
theorem errR_zero {l : List Task} {c p : Int} {s : List Int} {a : Int} (h : errR l c p s a = 0) : validB l c p = true ∧ givenR l s a = 0 ∧ (stateN l s a).any (tooMuch c p) = false := by
  unfold errR at h
  split at h
  · rename_i h1
    split at h
    · rename_i h2
      split at h
      · cases h
      · rename_i h3
        exact ⟨h1, h2, by simpa using h3⟩
    · rename_i h2
      exact absurd h h2
  · cases h
/-- What least gives. -/
def LeastR (l : List Task) (c p : Int) (s : List Int) (a : Int) (w : World) (e : Ending) (w' : World) : Prop :=
  Below w.heap.size w w' ∧ ((errR l c p s a ≠ 0 ∧ ∃ ov, e = .returned (.tuple #[ov, .int .i64 0, .slice none 0 0, .int .i64 (errR l c p s a)])) ∨
    (errR l c p s a = 0 ∧ ∃ ov ms A cap, e = .returned (.tuple #[ov, .int .i64 (leastN (stateN l s a) c p).1, .slice A (leastN (stateN l s a) c p).2.length cap, .int .i64 0]) ∧ TasksAt w' w'.heap.size ov ms ∧ norms ms = stateN l s a ∧
      w'.ownsRow w.heap.size 3 1 (.slice A (leastN (stateN l s a) c p).2.length cap) (leastN (stateN l s a) c p).2.length ((leastN (stateN l s a) c p).2.map (Value.int .i64))))

theorem con_valid {l m : List Task} {c p : Int} {s : List Int} {a : Int} (hR : RightT l) (hn : norms m = stateN l s a) (hc : 0 ≤ c ∧ c ≤ 1000) (hp : 0 ≤ p ∧ p ≤ 1000) : validB m c p = true := by
  have hS := con_sub (norms_state.trans hn.symm) (sub_state (s := s) (a := a) hR)
  unfold validB betweenB
  rw [(right_iff m).2 (hS.right hR), decide_eq_true hc, decide_eq_true hp]
  rfl

set_option maxRecDepth 100000 in
set_option maxHeartbeats 4000000 in
theorem rpLeast (v u : Value) (l : List Task) (c p : Int) (s : List Int) (a : Int) (w : World) (hl : TasksAt w w.heap.size v l) (hs : IntsAt w w.heap.size u s) (hw : Wide s) :
    Calls Tryz.prog 21 #[v, .int .i64 c, .int .i64 p, u, .int .i64 a] w (LeastR l c p s a w) := by
  have hV := schedValid v l c p w hl
  have HST : Hid (∀ w1, Below w.heap.size w w1 → Calls Tryz.prog 14 #[v, u, .int .i64 a] w1 (StateTop l s a w1)) := fun w1 hb => rpStateTop v u l s a w1 ((hl.below hb (Nat.le_refl _)).mono hb.size) ((hs.below hb (Nat.le_refl _)).mono hb.size) hw
  obtain ⟨A, cc, rfl, hA1, hA2, -⟩ := hl.open_
  obtain ⟨A1, c1, rfl, hB1, hB2, -⟩ := hs.open_
  unfold maxLen at hA2 hB2
  clear hl hs hw
  cases hv : validB l c p with
  | false =>
    have HE : Hid (errR l c p s a = 1) := by unfold Hid errR; rw [hv]; exact if_neg (by simp)
    rw [hv] at hV
    clear hv
    go_enter Tryz.func21, Tryz.ntmps21
    go_wp2_with (go_at_call 36; refine hV.mono ?_; rintro e w1 ⟨rfl, hb1⟩)
    refine bodyPost_ret (results_tmp4 rfl _ _ _) (by rfl) ?_
    exact ⟨hb1, .inl ⟨by rw [HE.out]; decide, _, by rw [HE.out]; rfl⟩⟩
  | true =>
    obtain ⟨hR, hc0, hc1, hp0, hp1⟩ := valid_right hv
    have HE : Hid (errR l c p s a = if givenR l s a = 0 then (if (stateN l s a).any (tooMuch c p) = true then 22 else 0) else givenR l s a) := by unfold Hid errR; rw [hv]; exact if_pos rfl
    have HV2 : Hid (∀ ms, norms ms = stateN l s a → validB ms c p = true ∧ ms.any (tooMuch c p) = (stateN l s a).any (tooMuch c p) ∧ leastN ms c p = leastN (stateN l s a) c p) := fun ms hn =>
      ⟨con_valid hR hn ⟨hc0, hc1⟩ ⟨hp0, hp1⟩, con_any (hn.trans norms_state.symm) c p, con_least (hn.trans norms_state.symm) c p⟩
    rw [hv] at hV
    clear hv hR
    go_enter Tryz.func21, Tryz.ntmps21
    go_wp2_with (go_at_call 36; refine hV.mono ?_; rintro e w1 ⟨rfl, hb1⟩)
    refine (HST.out _ hb1).mono ?_
    rintro e w2 ⟨hb2, ⟨hg, rfl⟩ | ⟨hg, ov, ms, rfl, hT2, hN2⟩⟩
    · have hbx := hb1.trans (hb2.mono hb1.size)
      have HE2 : Hid (errR l c p s a = givenR l s a) := by unfold Hid; rw [HE.out, if_neg hg]
      have Hg := Lib.hid hg
      generalize givenR l s a = x at *
      have hb : (x != 0) = true := bne_iff_ne.2 hg
      clear hg HE
      go_wp2_with fail
      refine bodyPost_ret (results_tmp4 rfl _ _ _) (by rfl) ?_
      exact ⟨hbx, .inl ⟨by rw [HE2.out]; exact Hg.out, _, by rw [HE2.out]; rfl⟩⟩
    · have hbx := hb1.trans (hb2.mono hb1.size)
      have HE2 : Hid (errR l c p s a = if (stateN l s a).any (tooMuch c p) = true then 22 else 0) := by unfold Hid; rw [HE.out, if_pos hg]
      obtain ⟨hv2, ha2, hl2⟩ := HV2.out ms hN2
      have hLe := schedLeast ov ms c p w2 hT2
      have HT2 := Lib.hid hT2
      have HN2 := Lib.hid hN2
      obtain ⟨A2, c2, rfl, -, -, -⟩ := hT2.open_
      clear hg HE hT2 hN2
      go_wp2_with fail
      refine hLe.mono ?_
      rintro e w3 ⟨hb3, hpost⟩
      have hbx3 := hbx.trans (hb3.mono hbx.size)
      rcases hpost with ⟨hno, -⟩ | ⟨-, hn, rfl⟩ | ⟨-, hn, A3, cap3, rfl, hown⟩
      · rw [hv2] at hno; cases hno
      · have HE3 : Hid (errR l c p s a = 22) := by unfold Hid; rw [HE2.out, ← ha2, hn]; rfl
        clear hv2 ha2 hl2 hn hLe HE2
        go_wp2_with fail
        refine bodyPost_ret (results_tmp4 rfl _ _ _) (by rfl) ?_
        exact ⟨hbx3, .inl ⟨by rw [HE3.out]; decide, _, by rw [HE3.out]; rfl⟩⟩
      · have HE3 : Hid (errR l c p s a = 0) := by unfold Hid; rw [HE2.out, ← ha2, hn]; rfl
        rw [hl2] at hown ⊢
        have HO := Lib.hid (own_mono hown hbx.size)
        have HT3 := Lib.hid ((HT2.out.below hb3 (Nat.le_refl _)).mono hb3.size)
        clear hv2 ha2 hl2 hn hLe HE2 hown
        generalize hr : leastN (stateN l s a) c p = r at *
        have Hr := Lib.hid hr
        clear hr
        go_wp2_with fail
        refine bodyPost_ret (results_tmp4 rfl _ _ _) (by rfl) ?_
        have hr := Hr.out
        subst hr
        exact ⟨hbx3, .inr ⟨HE3.out, _, ms, A3, cap3, rfl, HT3.out, HN2.out, HO.out⟩⟩

theorem least_bd {l : List Task} {c p : Int} (hR : RightT l) (hc : 0 ≤ c ∧ 0 ≤ p) (hfit : l.any (tooMuch c p) = false) : 0 ≤ (leastN l c p).1 ∧ (leastN l c p).1 ≤ 90000 := by
  obtain ⟨h1, h2, h3, h4⟩ := least_keeps hR hc hfit
  rw [h4]
  refine ⟨lenTo_ge0 _, lenTo_le (by omega) _ fun i hi => ?_⟩
  have := h3 _ (List.getElem_mem (show i < (leastN l c p).2.length by omega))
  rw [← atI_get (by omega)] at this
  have h5 := (fieldB_len (hR.field i hi)).2
  unfold endN
  rw [lenAt_eq hi]
  omega
theorem err_bd {l : List Task} {c p : Int} {s : List Int} {a : Int} (h : errR l c p s a = 0) : 0 ≤ a ∧ a ≤ 1000000 ∧ 0 ≤ (leastN (stateN l s a) c p).1 ∧ (leastN (stateN l s a) c p).1 ≤ 90000 := by
  obtain ⟨hv, hg, hn⟩ := errR_zero h
  obtain ⟨hR, hc0, -, hp0, -⟩ := valid_right hv
  obtain ⟨-, -, ha0, ha1, -⟩ := givenR_zero hg
  have := least_bd ((sub_state (s := s) (a := a) hR).right hR) ⟨hc0, hp0⟩ hn
  omega

/-- What End gives. -/
def EndPost (l : List Task) (c p : Int) (s : List Int) (a : Int) (w : World) (e : Ending) (w' : World) : Prop :=
  Below w.heap.size w w' ∧ e = .returned (.tuple #[.int .i64 (if errR l c p s a = 0 then a + (leastN (stateN l s a) c p).1 else 0), .int .i64 (errR l c p s a)])

set_option maxRecDepth 100000 in
set_option maxHeartbeats 4000000 in
theorem rpEnd (v u : Value) (l : List Task) (c p : Int) (s : List Int) (a : Int) (w : World) (hl : TasksAt w w.heap.size v l) (hs : IntsAt w w.heap.size u s) (hw : Wide s) :
    Calls Tryz.prog 7 #[v, .int .i64 c, .int .i64 p, u, .int .i64 a] w (EndPost l c p s a w) := by
  have hL := rpLeast v u l c p s a w hl hs hw
  obtain ⟨A, cc, rfl, hA1, hA2, -⟩ := hl.open_
  obtain ⟨A1, c1, rfl, hB1, hB2, -⟩ := hs.open_
  unfold maxLen at hA2 hB2
  clear hl hs hw
  go_enter Tryz.func7, Tryz.ntmps7
  go_wp2_with fail
  refine hL.mono ?_
  rintro e w1 ⟨hb1, ⟨he, ov, rfl⟩ | ⟨he, ov, ms, A3, cap3, rfl, -, -, -⟩⟩
  · have He := Lib.hid he
    generalize hx : errR l c p s a = x at *
    have hb : (x != 0) = true := bne_iff_ne.2 he
    have Hx := Lib.hid hx
    clear he hx hL
    go_wp2_with fail
    refine bodyPost_ret (results_tmp2 rfl _ _ _) (by rfl) ?_
    refine ⟨hb1, ?_⟩
    rw [Hx.out, if_neg He.out]
    rfl
  · obtain ⟨h1, h2, h3, h4⟩ := err_bd he
    have He := Lib.hid he
    clear he hL
    generalize hr : leastN (stateN l s a) c p = r at *
    obtain ⟨rn, rl⟩ := r
    have Hr := Lib.hid hr
    clear hr
    simp only at h3 h4
    have hw : IntKind.i64.wrap (a + rn) = a + rn := IntWalk.i64_in _ (by omega)
    go_wp2_with fail
    refine bodyPost_ret (results_tmp2 rfl _ _ _) (by rfl) ?_
    refine ⟨hb1, ?_⟩
    rw [He.out, Hr.out, if_pos rfl]
    rfl

/-- What Later gives. -/
def LaterPost (l : List Task) (c p : Int) (s : List Int) (a : Int) (w : World) (e : Ending) (w' : World) : Prop :=
  Below w.heap.size w w' ∧ e = .returned (.tuple #[.int .i64 (if errR l c p s a = 0 then a + (leastN (stateN l s a) c p).1 - max2 (lenTo l s l.length) a else 0), .int .i64 (errR l c p s a)])

set_option maxRecDepth 100000 in
set_option maxHeartbeats 4000000 in
theorem rpLater (v u : Value) (l : List Task) (c p : Int) (s : List Int) (a : Int) (w : World) (hl : TasksAt w w.heap.size v l) (hs : IntsAt w w.heap.size u s) (hw : Wide s) :
    Calls Tryz.prog 8 #[v, .int .i64 c, .int .i64 p, u, .int .i64 a] w (LaterPost l c p s a w) := by
  have hL := rpEnd v u l c p s a w hl hs hw
  have HLn : Hid (∀ w1, Below w.heap.size w w1 → Calls Tryz.prog 24 #[v, u] w1 (LengthPost l s w1)) := fun w1 hb => schedLength v u l s w1 ((hl.below hb (Nat.le_refl _)).mono hb.size) ((hs.below hb (Nat.le_refl _)).mono hb.size) hw
  obtain ⟨A, cc, rfl, hA1, hA2, -⟩ := hl.open_
  obtain ⟨A1, c1, rfl, hB1, hB2, -⟩ := hs.open_
  unfold maxLen at hA2 hB2
  clear hl hs hw
  by_cases he : errR l c p s a = 0
  · obtain ⟨h1, h2, h3, h4⟩ := err_bd he
    obtain ⟨hv, hg, -⟩ := errR_zero he
    obtain ⟨hR, hst, -, -, -⟩ := givenR_zero hg
    obtain ⟨hlen, hbd⟩ := startsN_zero hst
    obtain ⟨h5, h6⟩ := lenTo_bd hR hlen hbd l.length (Nat.le_refl _)
    have He := Lib.hid he
    have HLn2 : Hid (∀ w1, Below w.heap.size w w1 → Calls Tryz.prog 24 #[.slice A l.length cc, .slice A1 s.length c1] w1 fun e w' => e = .returned (.tuple #[.int .i64 (lenTo l s l.length), .int .i64 0]) ∧ Below w1.heap.size w1 w') := fun w1 hb => (HLn.out w1 hb).mono fun e w' ⟨hb2, h⟩ => by
      rcases h with ⟨hno, -⟩ | ⟨-, h⟩
      · rw [(right_iff l).2 hR] at hno; cases hno
      · rw [hst, if_pos rfl] at h
        exact ⟨h, hb2⟩
    unfold EndPost at hL
    rw [he, if_pos rfl] at hL
    unfold LaterPost
    rw [he, if_pos rfl]
    clear he hv hg hR hst hlen hbd HLn
    generalize leastN (stateN l s a) c p = r at *
    obtain ⟨rn, rl⟩ := r
    simp only at *
    generalize lenTo l s l.length = n at *
    by_cases hm : n < a
    · have hM : Hid (max2 n a = a) := by unfold Hid max2; rw [if_pos hm]
      have hw : IntKind.i64.wrap (a + rn - a) = a + rn - a := IntWalk.i64_in _ (by omega)
      go_enter Tryz.func8, Tryz.ntmps8
      go_wp2_with fail
      refine hL.mono ?_
      rintro e w1 ⟨hb1, rfl⟩
      go_wp2_with fail
      refine (HLn2.out _ hb1).mono ?_
      rintro e w2 ⟨rfl, hb2⟩
      go_wp2_with fail
      refine bodyPost_ret (results_tmp2 rfl _ _ _) (by rfl) ?_
      refine ⟨hb1.trans (hb2.mono hb1.size), ?_⟩
      rw [hM.out]
      simp
      omega
    · have hM : Hid (max2 n a = n) := by unfold Hid max2; rw [if_neg hm]
      have hm' : a ≤ n := by omega
      have hw : IntKind.i64.wrap (a + rn - n) = a + rn - n := IntWalk.i64_in _ (by omega)
      go_enter Tryz.func8, Tryz.ntmps8
      go_wp2_with fail
      refine hL.mono ?_
      rintro e w1 ⟨hb1, rfl⟩
      go_wp2_with fail
      refine (HLn2.out _ hb1).mono ?_
      rintro e w2 ⟨rfl, hb2⟩
      go_wp2_with fail
      refine bodyPost_ret (results_tmp2 rfl _ _ _) (by rfl) ?_
      refine ⟨hb1.trans (hb2.mono hb1.size), ?_⟩
      rw [hM.out]
      simp
      omega
  · unfold EndPost at hL
    rw [if_neg he] at hL
    unfold LaterPost
    rw [if_neg he]
    generalize errR l c p s a = x at *
    have hb : (x != 0) = true := bne_iff_ne.2 he
    clear he HLn
    go_enter Tryz.func8, Tryz.ntmps8
    go_wp2_with fail
    refine hL.mono ?_
    rintro e w1 ⟨hb1, rfl⟩
    go_wp2_with fail
    refine bodyPost_ret (results_tmp2 rfl _ _ _) (by rfl) ?_
    exact ⟨hb1, rfl⟩

end Go.Proofs.YtfcfphamecbcgaaGreat

/- replan.Again. -/
namespace Go.Proofs.YtfcfphamecbcgaaGreat
open Go.RowKit Go.Shelf

/-- The new start of a task; r: the shortest starts of the state. -/
def agI (l : List Task) (s : List Int) (a : Int) (r : List Int) (i : Nat) : Int := if 0 ≤ pl (stateN l s a) (tk l i).name then a + atI r (pl (stateN l s a) (tk l i).name).toNat else atI s i
def againN (l : List Task) (c p : Int) (s : List Int) (a : Int) : List Int := (List.range l.length).map (agI l s a (leastN (stateN l s a) c p).2)
/-- What Again gives. -/
def AgainPost (l : List Task) (c p : Int) (s : List Int) (a : Int) (w : World) (e : Ending) (w' : World) : Prop :=
  Below w.heap.size w w' ∧ ((errR l c p s a ≠ 0 ∧ e = .returned (.tuple #[.slice none 0 0, .int .i64 (errR l c p s a)])) ∨
    (errR l c p s a = 0 ∧ ∃ v, e = .returned (.tuple #[v, .int .i64 0]) ∧ w'.ownsRow w.heap.size 3 1 v l.length ((againN l c p s a).map (Value.int .i64))))
/-- Where the first k starts are new. -/
def agTo (l : List Task) (s : List Int) (a : Int) (r : List Int) (k : Nat) : List Int := (List.range l.length).map fun i => if i < k then agI l s a r i else atI s i
theorem agTo_zero {l : List Task} {s : List Int} {a : Int} {r : List Int} (h : s.length = l.length) : agTo l s a r 0 = s := by
  apply List.ext_getElem
  · simp [agTo, h]
  · intro i h1 h2
    simp [agTo, atI_get h2]
theorem agTo_all {l : List Task} {s : List Int} {a : Int} {r : List Int} : agTo l s a r l.length = (List.range l.length).map (agI l s a r) := by
  unfold agTo
  refine List.map_congr_left fun i hi => ?_
  rw [if_pos (List.mem_range.1 hi)]
theorem agTo_succ {l : List Task} {s : List Int} {a : Int} {r : List Int} {k : Nat} : agTo l s a r (k + 1) = (agTo l s a r k).set k (agI l s a r k) := by
  apply List.ext_getElem
  · simp [agTo]
  · intro i h1 h2
    simp only [agTo, List.getElem_map, List.getElem_range, List.getElem_set]
    by_cases e : k = i
    · subst e; simp
    · rw [if_neg e]
      by_cases h : i < k
      · rw [if_pos (by omega), if_pos h]
      · rw [if_neg (by omega), if_neg h]
theorem agTo_at {l : List Task} {s : List Int} {a : Int} {r : List Int} {k : Nat} (hk : k < l.length) : (agTo l s a r k)[k]? = some (atI s k) := by
  unfold agTo
  simp [hk]

set_option maxRecDepth 100000 in
set_option maxHeartbeats 8000000 in
theorem rpAgain (v u : Value) (l : List Task) (c p : Int) (s : List Int) (a : Int) (w : World) (hl : TasksAt w w.heap.size v l) (hs : IntsAt w w.heap.size u s) (hw : Wide s) :
    Calls Tryz.prog 6 #[v, .int .i64 c, .int .i64 p, u, .int .i64 a] w (AgainPost l c p s a w) := by
  have hL := rpLeast v u l c p s a w hl hs hw
  have HTw : Hid (∀ w1, Below w.heap.size w w1 → TasksAt w1 w.heap.size v l) := fun w1 hb => hl.below hb (Nat.le_refl _)
  have HCl : Hid (s.length ≤ 1000 → ∀ w1, Below w.heap.size w w1 → Calls Tryz.prog 22 #[u] w1 fun e w' => ∃ v', e = .returned v' ∧ w'.ownsRow w1.heap.size 3 1 v' s.length (s.map (Value.int .i64)) ∧ Below w1.heap.size w1 w') := fun h w1 hb => cloneInt u s w1 ((hs.below hb (Nat.le_refl _)).mono hb.size) (by omega)
  obtain ⟨A, cc, rfl, hA1, hA2, -⟩ := hl.open_
  obtain ⟨A1, c1, rfl, hB1, hB2, -⟩ := hs.open_
  unfold maxLen at hA2 hB2
  clear hl hs hw
  go_enter Tryz.func6, Tryz.ntmps6
  go_wp2_with fail
  refine hL.mono ?_
  rintro e w1 ⟨hb1, ⟨he, ov, rfl⟩ | ⟨he, ov, ms, A3, cap3, rfl, hT, hN, hown⟩⟩
  · have He := Lib.hid he
    generalize hx : errR l c p s a = x at *
    have hb : (x != 0) = true := bne_iff_ne.2 he
    have Hx := Lib.hid hx
    clear he hx hL
    go_wp2_with fail
    refine bodyPost_ret (results_tmp2 rfl _ _ _) (by rfl) ?_
    exact ⟨hb1, .inl ⟨by rw [Hx.out]; exact He.out, by rw [Hx.out]; rfl⟩⟩
  · obtain ⟨h1, h2, -, -⟩ := err_bd he
    obtain ⟨hv, hg, hn⟩ := errR_zero he
    obtain ⟨hR, hc0, -, hp0, -⟩ := valid_right hv
    obtain ⟨-, hst, -, -, -⟩ := givenR_zero hg
    obtain ⟨hlen, -⟩ := startsN_zero hst
    have h8 := hR.len
    obtain ⟨-, hrl, hrb, -⟩ := least_keeps ((sub_state (s := s) (a := a) hR).right hR) ⟨hc0, hp0⟩ hn
    have hsh := (sub_state (s := s) (a := a) hR).short
    have hsl := state_len (l := l) (s := s) (a := a)
    have He := Lib.hid he
    have hml := con_len (hN.trans norms_state.symm)
    have HPl : Hid (pl ms = pl (stateN l s a)) := con_pl (hN.trans norms_state.symm)
    have HFind : Hid (∀ x w2, Below w1.heap.size w1 w2 → Calls Tryz.prog 23 #[ov, .string x] w2 fun e w' => e = .returned (.int .i64 (pl (stateN l s a) x)) ∧ Below w2.heap.size w2 w') := fun x w2 hb => by
      have := rpFind ov ms x w2 ((hT.below hb (Nat.le_refl _)).mono hb.size)
      rwa [HPl.out] at this
    have HPlb : Hid (∀ x, pl (stateN l s a) x = -1 ∨ ∃ b : Nat, b < (leastN (stateN l s a) c p).2.length ∧ pl (stateN l s a) x = (b : Int)) := fun x => by
      by_cases hx : x ∈ names (stateN l s a)
      · obtain ⟨b, hb, e, -⟩ := pl_mem hx
        exact .inr ⟨b, by omega, e⟩
      · exact .inl (pl_not hx)
    have HRow : Hid (∀ w2, Below w1.heap.size w1 w2 → ∀ b, b < (leastN (stateN l s a) c p).2.length → ∃ g3, A3 = some ⟨g3, 0, none⟩ ∧ w2.cell? ⟨g3, b, none⟩ = some (.int .i64 (atI (leastN (stateN l s a) c p).2 b)) ∧ 0 ≤ atI (leastN (stateN l s a) c p).2 b ∧ atI (leastN (stateN l s a) c p).2 b ≤ 80000) := fun w2 hb b hbl => by
      obtain ⟨g3, c3', e3, -, hg3⟩ := World.ownsRow.form hown (by omega)
      injection e3 with e3 _ e4
      subst e3 e4
      have := hown.cellAt b (by omega)
      rw [List.getElem?_map, List.getElem?_eq_getElem hbl] at this
      have hx := hrb _ (List.getElem_mem hbl)
      rw [← atI_get hbl] at this hx
      exact ⟨g3, rfl, (hb.cell (p := ⟨g3, b, none⟩) hg3).trans this, hx.1, hx.2⟩
    obtain ⟨Ao, co, rfl, -, -, -⟩ := hT.open_
    have hCl := HCl.out (by omega) w1 hb1
    have hcap3 : (leastN (stateN l s a) c p).2.length ≤ 8 := by omega
    have hc3 : (leastN (stateN l s a) c p).2.length ≤ cap3 := by
      obtain ⟨-, h⟩ := hown
      rcases h with ⟨e, -⟩ | ⟨g9, c9, cur, e, -, -, hh, -⟩
      · injection e with _ e1 e2; omega
      · injection e with _ e1 e2; omega
    have Hlen := Lib.hid hlen
    have HN0 : Hid (againN l c p s a = agTo l s a (leastN (stateN l s a) c p).2 l.length) := agTo_all.symm
    have HTk : Hid (∀ k (h : k < l.length), (tk l k).name = l[k].name) := fun k h => by rw [tk_get h]
    clear he hv hg hn hR hst hL hN hT hml HPl hown hrl hrb HCl hlen hsh hsl
    unfold AgainPost
    rw [HN0.out]
    generalize (leastN (stateN l s a) c p).1 = rn at *
    generalize (leastN (stateN l s a) c p).2 = r at *
    go_wp2_with fail
    refine hCl.mono ?_
    rintro e w2 ⟨v2, rfl, hown2, hb2⟩
    rw [Hlen.out] at hown2
    have hb1s := hb1.size
    have HO0 : Hid (w2.ownsRow w1.heap.size 3 1 v2 l.length ((agTo l s a r 0).map (Value.int .i64))) := by rw [agTo_zero Hlen.out]; exact hown2
    have hbx2 := hb1.trans (hb2.mono hb1.size)
    clear hCl hown2
    obtain ⟨A2, c2, hv2, hc2, hc2', -⟩ := (show IntsAt w2 w2.heap.size v2 (agTo l s a r 0) from RowAt.of_own (n := l.length) HO0.out).open_
    have hal : (agTo l s a r 0).length = l.length := by simp [agTo]
    rw [hal] at hv2 hc2
    subst hv2
    unfold maxLen at hc2'
    clear hal
    go_wp2_with fail
    go_loopw [38] (fun ix wr => ∃ k : Nat, k ≤ l.length ∧ ix = .int .i64 k ∧ Hid (wr.ownsRow w1.heap.size 3 1 (.slice A2 l.length c2) l.length ((agTo l s a r k).map (Value.int .i64))) ∧ Hid (Below w1.heap.size w1 wr) ∧ Below w.heap.size w wr) (fun ix _ => l.length - (intOf ix).toNat)
    case atStart => exact ⟨0, Nat.zero_le _, rfl, HO0, hb2, hbx2⟩
    case round =>
      clear HO0 hbx2 hb2
      obtain ⟨k, hk, rfl, HO, HB1, hbel⟩ := hrel
      have k1 : (0 : Int) ≤ (k : Int) := Int.natCast_nonneg _
      by_cases hkl : k < l.length
      · have hTr := HTw.out wr hbel
        obtain ⟨b0, off0, rfl, hb0, hct⟩ := hTr.cells hkl
        obtain ⟨t0, t1, t2, t3, t4⟩ := hct k hkl
        have HS := Lib.hid (agTo_succ (l := l) (s := s) (a := a) (r := r) (k := k))
        have HAg : Hid (agI l s a r k = if 0 ≤ pl (stateN l s a) l[k].name then a + atI r (pl (stateN l s a) l[k].name).toNat else atI s k) := by unfold Hid agI; rw [HTk.out k hkl]
        have HAt : Hid ((agTo l s a r k)[k]? = some (atI s k)) := agTo_at hkl
        have hb3 : Below wr.heap.size wr (wr.alloc (.cells #[.string l[k].name, .int .i64 l[k].len, .int .i64 l[k].crew, .int .i64 l[k].pow, .slice l[k].ba l[k].bef.length l[k].bc] 40)) := (Below.refl _ _).alloc (Nat.le_refl _) _
        have HB13 := Lib.hid (HB1.out.trans (hb3.mono HB1.out.size))
        have HO3 := Lib.hid (own_past HO.out hb3)
        have hbel3 := hbel.trans (hb3.mono hbel.size)
        have hF := HFind.out l[k].name _ HB13.out
        have hP := HPlb.out l[k].name
        have j1 : (k : Int) < (l.length : Int) := by omega
        clear hTr hct HB1 HO hbel hb3
        generalize pl (stateN l s a) l[k].name = x at *
        go_wp2_with fail
        refine hF.mono ?_
        rintro e w4 ⟨rfl, hb4⟩
        have HB14 := Lib.hid (HB13.out.trans (hb4.mono HB13.out.size))
        have HO4 := Lib.hid (own_past HO3.out hb4)
        have hbel4 := hbel3.trans (hb4.mono hbel3.size)
        clear hF hb4 HB13 HO3 hbel3 t0 t1 t2 t3 t4
        rcases hP with rfl | ⟨b, hb, rfl⟩
        · have HO5 : Hid (w4.ownsRow w1.heap.size 3 1 (.slice A2 l.length c2) l.length ((agTo l s a r (k + 1)).map (Value.int .i64))) := by
            have e : agTo l s a r (k + 1) = agTo l s a r k := by
              rw [HS.out, HAg.out, if_neg (by omega)]
              apply List.ext_getElem?
              intro i
              rw [List.getElem?_set]
              split
              · rename_i h; subst h; rw [HAt.out]; simp [agTo, hkl]
              · rfl
            rw [e]
            exact HO4.out
          clear HO4 HS HAg HAt
          go_wp2_with fail
          go_roundw
          case rel => exact ⟨k + 1, by omega, by go_num, HO5, HB14, hbel4⟩
          case measure => simp [intOf]; omega
        · obtain ⟨g3, rfl, q3, q4, q5⟩ := HRow.out w4 HB14.out b hb
          obtain ⟨g2, c2', e2, hg2, -⟩ := World.ownsRow.form HO4.out (by omega)
          injection e2 with e2 _ e3
          subst e2 e3
          have hc := HO4.out.cellAt k (by omega)
          rw [List.getElem?_map, HAt.out] at hc
          simp only [Option.map_some] at hc
          have hf := HO4.out.frozenAt k
          obtain ⟨hM2, hgr⟩ := HO4.out.stored k (.int .i64 (a + atI r b))
          have HO5 : Hid ((w4.setCell ⟨g2, k, none⟩ (.int .i64 (a + atI r b))).ownsRow w1.heap.size 3 1 (.slice (some ⟨g2, 0, none⟩) l.length c2) l.length ((agTo l s a r (k + 1)).map (Value.int .i64))) := by
            unfold Hid
            rw [HS.out, HAg.out, if_pos (by omega), Int.toNat_natCast, List.map_set]
            exact hM2
          have HB15 := Lib.hid (HB14.out.grown hgr HB14.out.size (fun k hk => (HO4.out.lt k hk).1))
          have hbel5 := hbel4.grown hgr hbel4.size (fun k hk => Nat.le_trans hb1s (HO4.out.lt k hk).1)
          have w1' : IntKind.i64.wrap (a + atI r b) = a + atI r b := IntWalk.i64_in _ (by omega)
          have j2 : (0 : Int) ≤ (b : Int) := Int.natCast_nonneg _
          have j3 : (b : Int) < (r.length : Int) := by omega
          have j4 : decide ((0 : Int) ≤ (b : Int)) = true := decide_eq_true (by omega)
          clear hM2 hgr HO4 HB14 hbel4 HS HAg HAt
          go_wp2_with fail
          go_roundw
          case rel => exact ⟨k + 1, by omega, by go_num, HO5, HB15, hbel5⟩
          case measure => simp [intOf]; omega
      · obtain rfl : k = l.length := by omega
        go_wp2_with fail
        refine bodyPost_ret (results_tmp2 rfl _ _ _) (by rfl) ?_
        exact ⟨hbel, .inr ⟨He.out, _, rfl, by rw [HN0.out]; exact own_mono HO.out hb1s⟩⟩

end Go.Proofs.YtfcfphamecbcgaaGreat
