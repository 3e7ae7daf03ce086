/- For every input the law returns true, and its arguments read as they did: StepP, BestP, LawReBest, RowReBest. -/
import Derived.Deep.CutRange
import Derived.Deep.DeepCutAuto
import Derived.Deep.RegionHeld3
import Derived.Test.YtfcfphamecbcgaaG10
import Derived.Test.YtfcfphamecbcgaaG15
import Derived.Test.YtfcfphamecbcgaaG17
import Derived.Test.YtfcfphamecbcgaaG18
import Derived.Test.YtfcfphamecbcgaaG19
import Derived.Test.YtfcfphamecbcgaaG7

/- The state of a state: what the law asks. No program in sight. -/
namespace Go.Proofs.Ytfcfphamecbcgaa
open Go.RowKit Go.Shelf

section
variable {l ms : List Task} {s : List Int} {a d : Int}
theorem con_ord {m : List Task} (h : norms l = norms m) : ordB l s = ordB m s := by
  unfold ordB
  rw [con_len h]
  congr 1
  funext i
  rw [con_rowAt h]
  congr 1
  funext k
  rw [con_end h]
theorem rest_len : (restS l s a).length = (liveZ l s a).length := by simp [restS]
theorem rest_bd (hR : RightT l) (hlen : s.length = l.length) (hbd : ∀ x ∈ s, 0 ≤ x ∧ x ≤ 1000000) (ha : 0 ≤ a) : ∀ x ∈ restS l s a, 0 ≤ x ∧ x ≤ 1000000 := fun x hx => by
  unfold restS at hx
  obtain ⟨i, hi, rfl⟩ := List.mem_map.1 hx
  have h1 := (mem_live.1 hi).1
  have h2 := hbd _ (List.getElem_mem (show i < s.length by omega))
  rw [← atI_get (by omega)] at h2
  omega
theorem step_given (hg : givenR l s a = 0) (hN : norms ms = stateN l s a) (hd : 0 ≤ d ∧ d ≤ 65535) : givenR ms (restS l s a) d = 0 ∧ (givenR l s (a + d) = 0 ∨ (givenR l s (a + d) = 2 ∧ 1000000 < a + d)) ∧ stateN ms (restS l s a) d = stateN l s (a + d) := by
  obtain ⟨hR, hst, ha0, ha1, ho⟩ := givenR_zero hg
  obtain ⟨hlen, hbd⟩ := startsN_zero hst
  have hcn : norms (stateN l s a) = norms ms := norms_state.trans hN.symm
  have hS := con_sub hcn (sub_state (s := s) (a := a) hR)
  refine ⟨?_, ?_, ?_⟩
  · have h1 : startsN ms (restS l s a) = 0 := startsN_ok (by rw [rest_len, ← con_len hcn, state_len]) (rest_bd hR hlen hbd ha0)
    have h2 : ordB ms (restS l s a) = true := by rw [← con_ord hcn]; exact state_ord hR ho
    unfold givenR
    rw [if_pos ((right_iff _).2 (hS.right hR)), if_pos h1, if_neg (by omega), if_pos h2]
  · unfold givenR
    rw [if_pos ((right_iff _).2 hR), if_pos hst, if_pos ho]
    by_cases h : 1000000 < a + d
    · exact .inr ⟨by rw [if_pos (.inr h)], h⟩
    · exact .inl (by rw [if_neg (by omega)])
  · rw [← con_state hcn]
    exact state_step hR hd.1
theorem state_empty (hg : givenR l s a = 0) (hN : norms ms = stateN l s a) : ((ms.length : Int) == 0) = decide (lenTo l s l.length ≤ a) := by
  obtain ⟨hR, hst, ha0, ha1, ho⟩ := givenR_zero hg
  have hl := con_len (norms_state.trans hN.symm)
  rw [state_len] at hl
  rw [Bool.eq_iff_iff, beq_iff_eq, decide_eq_true_iff]
  constructor
  · intro h
    refine lenTo_le ha0 _ fun i hi => ?_
    apply Classical.byContradiction
    intro hno
    have : i ∈ liveZ l s a := mem_live.2 ⟨hi, by omega⟩
    rw [List.length_eq_zero_iff.1 (show (liveZ l s a).length = 0 by omega)] at this
    cases this
  · intro h
    have : liveZ l s a = [] := by
      apply List.eq_nil_iff_forall_not_mem.2
      intro i hi
      obtain ⟨h1, h2⟩ := mem_live.1 hi
      have := lenTo_ge (l := l) (s := s) l.length i h1
      omega
    rw [this] at hl
    simp at hl
    omega
/-- The first of the starts that are left. -/
def restTo (l : List Task) (s : List Int) (a : Int) (k : Nat) : List Int := ((List.range k).filter (liveB l s a)).map fun i => max 0 (atI s i - a)
theorem restTo_all : restTo l s a l.length = restS l s a := rfl
theorem restTo_succ {k : Nat} : restTo l s a (k + 1) = restTo l s a k ++ if liveB l s a k then [max 0 (atI s k - a)] else [] := by
  unfold restTo
  rw [List.range_succ, List.filter_append, List.map_append]
  congr 1
  cases h : liveB l s a k <;> simp [h]
theorem restTo_len {k : Nat} : (restTo l s a k).length ≤ k := by
  unfold restTo
  rw [List.length_map]
  have := List.length_filter_le (liveB l s a) (List.range k)
  rwa [List.length_range] at this
end

end Go.Proofs.Ytfcfphamecbcgaa

/- The best at a later time: what the law asks. No program in sight. -/
namespace Go.Proofs.Ytfcfphamecbcgaa
open Go.RowKit Go.Shelf

section
variable {l ms : List Task} {s : List Int} {a c p : Int}
theorem rest_lens (hlen : s.length = l.length) : (restS l s a).length = (stateN l s a).length := by rw [rest_len, state_len]
/-- Starts that keep the limits keep them for what is left. -/
theorem state_keeps (hR : RightT l) (hc : 0 ≤ c ∧ 0 ≤ p) (hlen : s.length = l.length) (hs : ∀ i, i < l.length → 0 ≤ atI s i) (hk : checkB l c p s = true) : checkB (stateN l s a) c p (restS l s a) = true := by
  have h := sub_state (s := s) (a := a) hR
  have hl := h.len
  obtain ⟨hrow, hfit⟩ := keeps_facts hlen hk
  have ho := state_ord (a := a) hR (ord_of hrow)
  rw [keeps_check (rest_lens hlen)]
  unfold keepsB
  rw [Bool.and_eq_true, List.all_eq_true, List.all_eq_true]
  refine ⟨fun b hb => ?_, fun b hb => ?_⟩
  · rw [Bool.not_eq_true', List.any_eq_false]
    intro k hkr
    have h1 := ord_facts ho (List.mem_range.1 hb) hkr
    unfold lateB
    simp
    omega
  · have hb' : b < (liveZ l s a).length := by have := List.mem_range.1 hb; omega
    have ht0 : 0 ≤ atI (restS l s a) b := by rw [rest_at hb']; omega
    generalize atI (restS l s a) b = t at *
    have hu : ∀ (f : Task → Int), (∀ i, i < l.length → 0 ≤ fAt f l i) → (∀ a', a' < (liveZ l s a).length → fAt f (stateN l s a) a' = fAt f l (zAt (liveZ l s a) a')) → usedTo f (stateN l s a) (restS l s a) t (stateN l s a).length ≤ usedTo f l s (a + t) l.length := fun f hf he => by
      have h1 := used_subL (m := stateN l s a) (z := liveZ l s a) (s := restS l s a) (r := s) (t := t) (t' := a + t) hf (liveZ l s a).length (Nat.le_refl _) fun b hb => ⟨fun hon => by
        unfold onB at hon
        simp only [Bool.and_eq_true, decide_eq_true_iff] at hon
        have h2 := state_end (s := s) (a := a) hR hb
        have h3 := rest_at (l := l) (s := s) (a := a) hb
        rw [onR_iff]
        omega, he b hb⟩
      have h2 := usedY_le hf (t := a + t) hlen hs h.nd h.lt
      rw [List.take_length] at h1
      rw [hl]
      omega
    have hc' := hu Task.crew (fun i hi => (crew_bd hR i hi).1) fun b hb => h.fCrew hb
    have hp' := hu Task.pow (fun i hi => (pow_bd hR i hi).1) fun b hb => h.fPow hb
    have hle := used_all hR hc hs hfit (a + t)
    unfold fitsB
    rw [Bool.and_eq_true, decide_eq_true_iff, decide_eq_true_iff]
    omega
theorem rest_end (hR : RightT l) : ∀ b, b < (stateN l s a).length → endN (stateN l s a) (restS l s a) b ≤ lenTo l s l.length - a := fun b hb => by
  rw [state_len] at hb
  rw [state_end hR hb]
  have := lenTo_ge (l := l) (s := s) l.length _ (mem_live.1 (zAt_mem hb)).1
  omega
/-- Under limits that the starts keep, all is done no later. -/
theorem later_no (he : errR l c p s a = 0) (hk : checkB l c p s = true) : a + (leastN (stateN l s a) c p).1 - max2 (lenTo l s l.length) a ≤ 0 := by
  obtain ⟨hv, hg, hn⟩ := errR_zero he
  obtain ⟨hR, hc0, -, hp0, -⟩ := valid_right hv
  obtain ⟨-, hst, ha0, ha1, -⟩ := givenR_zero hg
  obtain ⟨hlen, hbd⟩ := startsN_zero hst
  have hs : ∀ i, i < l.length → 0 ≤ atI s i := fun i hi => by rw [atI_get (by omega)]; exact (hbd _ (List.getElem_mem _)).1
  have h1 := least_opt ((sub_state (s := s) (a := a) hR).right hR) ⟨hc0, hp0⟩ hn (rest_lens hlen) (fun b hb => by rw [state_len] at hb; rw [rest_at hb]; omega) (state_keeps hR ⟨hc0, hp0⟩ hlen hs hk)
  have h2 := lenTo_le (l := stateN l s a) (s := restS l s a) (M := max 0 (lenTo l s l.length - a)) (by omega) (stateN l s a).length fun b hb => by
    have := rest_end (s := s) (a := a) hR b hb
    omega
  unfold max2
  split <;> omega
/-- At the time 0 the state is what was given. -/
theorem state_zero (hR : RightT l) (hlen : s.length = l.length) (hbd : ∀ x ∈ s, 0 ≤ x ∧ x ≤ 1000000) : stateN l s 0 = norms l := by
  have hs : ∀ i, i < l.length → 0 ≤ atI s i := fun i hi => by rw [atI_get (by omega)]; exact (hbd _ (List.getElem_mem _)).1
  have hlv : ∀ i, i < l.length → liveB l s 0 i = true := fun i hi => by
    have := (fieldB_len (hR.field i hi)).1
    have h2 := hs i hi
    unfold liveB endN
    rw [lenAt_eq hi, decide_eq_true_iff]
    omega
  have hz : liveZ l s 0 = List.range l.length := by
    unfold liveZ
    rw [List.filter_eq_self]
    exact fun i hi => hlv i (List.mem_range.1 hi)
  unfold stateN norms
  rw [hz]
  apply List.ext_getElem
  · simp
  · intro i h1 h2
    have hi : i < l.length := by simpa using h1
    simp only [List.getElem_map, List.getElem_range]
    unfold stTask Task.norm
    rw [tk_get hi, if_neg (by have := hs i hi; omega)]
    have : (l[i].bef.filter fun x => liveB l s 0 (pl l x).toNat) = l[i].bef := by
      rw [List.filter_eq_self]
      intro x hx
      obtain ⟨j, hj, e⟩ := mem_row hR hi (show pl l x ∈ pls l l[i].bef by unfold pls; exact List.mem_map.2 ⟨x, hx, rfl⟩)
      rw [e, Int.toNat_natCast]
      exact hlv j hj
    rw [this]
/-- At the time 0 the new starts are the shortest ones. -/
theorem again_zero (he : errR l c p s 0 = 0) : validB l c p = true ∧ l.any (tooMuch c p) = false ∧ againN l c p s 0 = (leastN l c p).2 := by
  obtain ⟨hv, hg, hn⟩ := errR_zero he
  obtain ⟨hR, hc0, -, hp0, -⟩ := valid_right hv
  obtain ⟨-, hst, -, -, -⟩ := givenR_zero hg
  obtain ⟨hlen, hbd⟩ := startsN_zero hst
  have hz := state_zero hR hlen hbd
  have hcn : norms (stateN l s 0) = norms l := by rw [norms_state, hz]
  rw [con_any hcn] at hn
  refine ⟨hv, hn, ?_⟩
  have hll := (least_keeps hR ⟨hc0, hp0⟩ hn).2.1
  unfold againN
  rw [con_least hcn]
  apply List.ext_getElem
  · simp [hll]
  · intro i h1 h2
    have hi : i < l.length := by omega
    simp only [List.getElem_map, List.getElem_range]
    unfold agI
    have hp : pl (stateN l s 0) (tk l i).name = (i : Int) := by
      rw [con_pl hcn, tk_get hi]
      exact pl_name hR.dist hi
    rw [hp, if_pos (Int.natCast_nonneg _), Int.toNat_natCast, atI_get h2]
    omega
/-- No starts of the state that keep the limits end earlier. -/
theorem state_best (he : errR l c p s a = 0) (hN : norms ms = stateN l s a) {o : List Int} (ho : startsN ms o = 0) (hk : checkB ms c p o = true) : (leastN (stateN l s a) c p).1 ≤ lenTo ms o ms.length := by
  obtain ⟨hv, hg, hn⟩ := errR_zero he
  obtain ⟨hR, hc0, -, hp0, -⟩ := valid_right hv
  have hcn : norms (stateN l s a) = norms ms := norms_state.trans hN.symm
  have hS := con_sub hcn (sub_state (s := s) (a := a) hR)
  obtain ⟨hlen, hbd⟩ := startsN_zero ho
  rw [con_any hcn] at hn
  rw [con_least hcn]
  exact least_opt (hS.right hR) ⟨hc0, hp0⟩ hn hlen (fun i hi => by rw [atI_get (by omega)]; exact (hbd _ (List.getElem_mem _)).1) hk
end

end Go.Proofs.Ytfcfphamecbcgaa

/- The law ReplanBest: the walk. -/
namespace Go.Proofs.Ytfcfphamecbcgaa
open Go.RowKit Go.Shelf

set_option maxRecDepth 100000 in
set_option maxHeartbeats 8000000 in
theorem lawReplanBest (v u u2 : Value) (l : List Task) (c p : Int) (s o : List Int) (a : Int) (w : World) (hl : TasksAt w w.heap.size v l) (hs : IntsAt w w.heap.size u s) (hw : Wide s) (hs2 : IntsAt w w.heap.size u2 o) (hw2 : Wide o) :
    Calls Try.prog 6 #[v, .int .i64 c, .int .i64 p, u, u2, .int .i64 a] w fun e w' => e = .returned (.bool true) ∧ Below w.heap.size w w' := by
  have hA := lawAwake45 w
  have HT : Hid (∀ w1, Below w.heap.size w w1 → TasksAt w1 w1.heap.size v l) := fun w1 hb => (hl.below hb (Nat.le_refl _)).mono hb.size
  have HS : Hid (∀ w1, Below w.heap.size w w1 → IntsAt w1 w1.heap.size u s) := fun w1 hb => (hs.below hb (Nat.le_refl _)).mono hb.size
  have HO : Hid (∀ w1, Below w.heap.size w w1 → IntsAt w1 w1.heap.size u2 o) := fun w1 hb => (hs2.below hb (Nat.le_refl _)).mono hb.size
  have HW2 := Lib.hid hw2
  have hLong := fun w1 hb => lawLarge v l w1 (HT.out w1 hb)
  have HEnd : Hid (∀ w1, Below w.heap.size w w1 → Calls Try.prog 18 #[v, .int .i64 c, .int .i64 p, u, .int .i64 a] w1 (EndPost l c p s a w1)) := fun w1 hb => rpEnd v u l c p s a w1 (HT.out w1 hb) (HS.out w1 hb) hw
  have HLat : Hid (∀ w1, Below w.heap.size w w1 → Calls Try.prog 19 #[v, .int .i64 c, .int .i64 p, u, .int .i64 a] w1 (LaterPost l c p s a w1)) := fun w1 hb => rpLater v u l c p s a w1 (HT.out w1 hb) (HS.out w1 hb) hw
  have HAg : Hid (∀ w1, Below w.heap.size w w1 → Calls Try.prog 16 #[v, .int .i64 c, .int .i64 p, u, .int .i64 0] w1 (AgainPost l c p s 0 w1)) := fun w1 hb => rpAgain v u l c p s 0 w1 (HT.out w1 hb) (HS.out w1 hb) hw
  have HLe : Hid (∀ w1, Below w.heap.size w w1 → Calls Try.prog 20 #[v, .int .i64 c, .int .i64 p] w1 (LeastPost l c p w1)) := fun w1 hb => schedLeast v l c p w1 (HT.out w1 hb)
  have HCk : Hid (∀ w1, Below w.heap.size w w1 → Calls Try.prog 17 #[v, .int .i64 c, .int .i64 p, u] w1 (CheckPost l c p s w1)) := fun w1 hb => schedCheck v u l c p s w1 (HT.out w1 hb) (HS.out w1 hb) hw
  have HSt : Hid (∀ w1, Below w.heap.size w w1 → Calls Try.prog 11 #[v, u, .int .i64 a] w1 (StateTop l s a w1)) := fun w1 hb => rpStateTop v u l s a w1 (HT.out w1 hb) (HS.out w1 hb) hw
  obtain ⟨A, cc, rfl, hA1, hA2, -⟩ := hl.open_
  obtain ⟨A1, c1, rfl, hB1, hB2, -⟩ := hs.open_
  obtain ⟨A2, c2, rfl, hC1, hC2, -⟩ := hs2.open_
  unfold maxLen at hA2 hB2 hC2
  clear hl hs hw hs2 hw2
  cases hlg : largeB l with
  | true =>
    rw [hlg] at hLong
    clear hlg
    go_enter Try.func6, Try.ntmps6
    go_wp2_with (first
      | (go_at_call 9; refine hA.mono ?_; rintro e w1 ⟨rfl, hb1⟩)
      | (go_at_call 10; refine (hLong _ hb1).mono ?_; rintro e w2 ⟨rfl, hb2⟩))
    go_ret
    exact ⟨rfl, hb1.trans (hb2.mono hb1.size)⟩
  | false =>
    rw [hlg] at hLong
    clear hlg
    by_cases h20 : 20 < s.length
    · have h20b : decide ((20 : Int) < s.length) = true := by simp; omega
      go_enter Try.func6, Try.ntmps6
      go_wp2_with (first
        | (go_at_call 9; refine hA.mono ?_; rintro e w1 ⟨rfl, hb1⟩)
        | (go_at_call 10; refine (hLong _ hb1).mono ?_; rintro e w2 ⟨rfl, hb2⟩))
      go_ret
      exact ⟨rfl, hb1.trans (hb2.mono hb1.size)⟩
    have h20b : decide ((20 : Int) < s.length) = false := by simp; omega
    clear h20
    by_cases h21 : 20 < o.length
    · have h21b : decide ((20 : Int) < o.length) = true := by simp; omega
      go_enter Try.func6, Try.ntmps6
      go_wp2_with (first
        | (go_at_call 9; refine hA.mono ?_; rintro e w1 ⟨rfl, hb1⟩)
        | (go_at_call 10; refine (hLong _ hb1).mono ?_; rintro e w2 ⟨rfl, hb2⟩))
      go_ret
      exact ⟨rfl, hb1.trans (hb2.mono hb1.size)⟩
    have h21b : decide ((20 : Int) < o.length) = false := by simp; omega
    clear h21
    go_enter Try.func6, Try.ntmps6
    go_wp2_with (first
      | (go_at_call 9; refine hA.mono ?_; rintro e w1 ⟨rfl, hb1⟩)
      | (go_at_call 10; refine (hLong _ hb1).mono ?_; rintro e w2 ⟨rfl, hb2⟩; have hbx := hb1.trans (hb2.mono hb1.size); clear hb1 hb2 hA hLong))
    refine (HEnd.out _ hbx).mono ?_
    rintro e w3 ⟨hb3, rfl⟩
    have hbx3 := hbx.trans (hb3.mono hbx.size)
    clear hb3 HEnd
    by_cases he : errR l c p s a = 0
    rotate_left
    · have heb : (errR l c p s a != 0) = true := bne_iff_ne.2 he
      have HL2 : Hid (∀ w1, Below w.heap.size w w1 → Calls Try.prog 19 #[.slice A l.length cc, .int .i64 c, .int .i64 p, .slice A1 s.length c1, .int .i64 a] w1 fun e w' => e = .returned (.tuple #[.int .i64 0, .int .i64 (errR l c p s a)]) ∧ Below w1.heap.size w1 w') := fun w1 hb => (HLat.out w1 hb).mono fun e w' ⟨h1, h2⟩ => by
        rw [if_neg he] at h2
        exact ⟨h2, h1⟩
      rw [if_neg he]
      clear he HLat
      generalize errR l c p s a = x at *
      go_wp2_with fail
      refine (HL2.out _ hbx3).mono ?_
      rintro e w4 ⟨rfl, hb4⟩
      go_wp2_with fail
      go_ret
      exact ⟨rfl, hbx3.trans (hb4.mono hbx3.size)⟩
    obtain ⟨hv, hg, hn⟩ := errR_zero he
    obtain ⟨ha0, ha1, hN0, hN1⟩ := err_bd he
    obtain ⟨hR, hc0, hc1, hp0, hp1⟩ := valid_right hv
    have hst := (givenR_zero hg).2.1
    obtain ⟨hlen, hbd⟩ := startsN_zero hst
    have h8 := hR.len
    have hlb := lenTo_bd hR hlen hbd l.length (Nat.le_refl _)
    have HE := Lib.hid he
    have HL2 : Hid (∀ w1, Below w.heap.size w w1 → Calls Try.prog 19 #[.slice A l.length cc, .int .i64 c, .int .i64 p, .slice A1 s.length c1, .int .i64 a] w1 fun e w' => e = .returned (.tuple #[.int .i64 (a + (leastN (stateN l s a) c p).1 - max2 (lenTo l s l.length) a), .int .i64 0]) ∧ Below w1.heap.size w1 w') := fun w1 hb => (HLat.out w1 hb).mono fun e w' ⟨h1, h2⟩ => by
      rw [if_pos he, he] at h2
      exact ⟨h2, h1⟩
    have HCk2 : Hid (∀ w1, Below w.heap.size w w1 → Calls Try.prog 17 #[.slice A l.length cc, .int .i64 c, .int .i64 p, .slice A1 s.length c1] w1 fun e w' => e = .returned (.tuple #[.bool (checkB l c p s), .int .i64 0]) ∧ Below w1.heap.size w1 w') := fun w1 hb => (HCk.out w1 hb).mono fun e w' h => by
      unfold CheckPost at h
      rw [checkE_yes hv, hst] at h
      refine ⟨?_, h.1⟩
      rw [h.2]
      simp
    have HSt2 : Hid (∀ w1, Below w.heap.size w w1 → Calls Try.prog 11 #[.slice A l.length cc, .slice A1 s.length c1, .int .i64 a] w1 fun e w' => (∃ A5 c5 ms, e = .returned (.tuple #[.slice A5 ms.length c5, .int .i64 0]) ∧ Hid (TasksAt w' w'.heap.size (.slice A5 ms.length c5) ms) ∧ Hid (norms ms = stateN l s a)) ∧ Below w1.heap.size w1 w') := fun w1 hb => (HSt.out w1 hb).mono fun e w' ⟨h1, h2⟩ => by
      rcases h2 with ⟨h2, -⟩ | ⟨-, v5, ms, he, hT, hN⟩
      · exact absurd hg h2
      · obtain ⟨A5, c5, rfl, -, -, -⟩ := hT.open_
        exact ⟨⟨A5, c5, ms, he, hT, hN⟩, h1⟩
    have HVal : Hid (∀ ms, norms ms = stateN l s a → validB ms c p = true ∧ rightR ms = true) := fun ms h => by
      have := con_valid hR h ⟨hc0, hc1⟩ ⟨hp0, hp1⟩
      exact ⟨this, (right_iff _).2 (valid_right this).1⟩
    have HNo : Hid (checkB l c p s = true → a + (leastN (stateN l s a) c p).1 - max2 (lenTo l s l.length) a ≤ 0) := later_no he
    have HBest : Hid (∀ ms, norms ms = stateN l s a → startsN ms o = 0 → checkB ms c p o = true → (leastN (stateN l s a) c p).1 ≤ lenTo ms o ms.length) := fun ms h1 h2 h3 => state_best he h1 h2 h3
    rw [if_pos he, he]
    clear hv hg hn hR hst hlen hbd HLat HCk HSt he
    generalize (leastN (stateN l s a) c p).1 = n at *
    go_wp2_with fail
    refine (HL2.out _ hbx3).mono ?_
    rintro e w4 ⟨rfl, hb4⟩
    have hbx4 := hbx3.trans (hb4.mono hbx3.size)
    clear hb4 hbx3 HL2
    generalize a + n - max2 (lenTo l s l.length) a = m at *
    clear hlb
    go_wp2_with fail
    refine (HCk2.out _ hbx4).mono ?_
    rintro e w5 ⟨rfl, hb5⟩
    have hbx5 := hbx4.trans (hb5.mono hbx4.size)
    clear hb5 hbx4 HCk2
    have hkm : (checkB l c p s && decide (0 < m)) = false := by
      cases hk : checkB l c p s with
      | false => rfl
      | true => rw [decide_eq_false (by have := HNo.out hk; omega)]; rfl
    generalize checkB l c p s = kb at *
    clear HNo
    have HZero : Hid (errR l c p s 0 = 0 → validB l c p = true ∧ l.any (tooMuch c p) = false ∧ againN l c p s 0 = (leastN l c p).2) := again_zero
    clear HE
    have hnb : n ≤ 90000 := hN1
    cases kb
    case' false => clear hkm
    case' true => rw [Bool.true_and] at hkm
    all_goals
      go_wp2_with fail
      refine (HAg.out _ hbx5).mono ?_
      rintro e w6 ⟨hb6, hp6⟩
      have hbx6 := hbx5.trans (hb6.mono hbx5.size)
      rcases hp6 with ⟨hx, rfl⟩ | ⟨hx, vx, rfl, hown⟩
      case' inl =>
        generalize errR l c p s 0 = x0 at *
        have hxb : (x0 == 0) = false := beq_eq_false_iff_ne.2 hx
        have hbz := hbx6
        clear hx hbx5 hb6 HZero
        go_wp2_with fail
      case' inr =>
        obtain ⟨hv, hn, hag⟩ := HZero.out hx
        rw [hag] at hown
        have hll : l.length = (leastN l c p).2.length := by rw [← hag]; simp [againN]
        rw [hll] at hown
        have hi6 : IntsAt w6 w6.heap.size vx (leastN l c p).2 := RowAt.of_own (own_mono hown (Nat.zero_le _))
        obtain ⟨A8, c8, rfl, -, -, -⟩ := hi6.open_
        have HI6 := Lib.hid hi6
        have Hv := Lib.hid hv
        have Hn := Lib.hid hn
        clear hx hv hn hag hll hown hi6 hbx5 hb6 HZero
        go_wp2_with fail
        refine (HLe.out _ hbx6).mono ?_
        rintro e w7 ⟨hb7, hp7⟩
        rcases hp7 with ⟨hno, -⟩ | ⟨-, hno, -⟩ | ⟨-, -, A7, cap7, rfl, hown7⟩
        · rw [Hv.out] at hno; cases hno
        · rw [Hn.out] at hno; cases hno
        have hbx7 := hbx6.trans (hb7.mono hbx6.size)
        have hE := equalInt _ _ _ _ w7.heap.size w7 ((HI6.out.below hb7 (Nat.le_refl _)).mono hb7.size) (RowAt.of_own (own_mono hown7 (Nat.zero_le _)))
        rw [decide_eq_true rfl] at hE
        clear HI6 hown7 Hv Hn hb7 hbx6
        generalize (leastN l c p).2.length = rl at *
        generalize (leastN l c p).1 = rn at *
        go_wp2_with fail
        refine hE.mono ?_
        rintro e w8 ⟨rfl, q, rfl⟩
        have hbz := below_drewN hbx7 q
        clear hE hbx7
        go_wp2_with fail
      all_goals
        clear HAg HLe
        refine (HSt2.out _ hbz).mono ?_
        rintro e w9 ⟨⟨A5, c5, ms, rfl, HTm, HNm⟩, hb9⟩
        have hbx9 := hbz.trans (hb9.mono hbz.size)
        obtain ⟨hvm, hrm⟩ := HVal.out ms HNm.out
        have hBm := HBest.out ms HNm.out
        have hCk := schedCheck (.slice A5 ms.length c5) (.slice A2 o.length c2) ms c p o w9 HTm.out (HO.out w9 hbx9) HW2.out
        have HLm : Hid (∀ w1, Below w9.heap.size w9 w1 → Calls Try.prog 15 #[.slice A5 ms.length c5, .slice A2 o.length c2] w1 (LengthPost ms o w1)) := fun w1 hb => schedLength _ _ ms o w1 ((HTm.out.below hb (Nat.le_refl _)).mono hb.size) (HO.out w1 (hbx9.trans (hb.mono hbx9.size))) HW2.out
        clear hbz hb9 HSt2 HVal HBest HO HW2 HTm HNm
        go_wp2_with fail
        refine hCk.mono ?_
        rintro e w10 hp10
        unfold CheckPost at hp10
        obtain ⟨hb10, rfl⟩ := hp10
        have hbx10 := hbx9.trans (hb10.mono hbx9.size)
        rw [checkE_yes hvm]
        clear hCk
        by_cases hs0 : startsN ms o = 0
        rotate_left
        · have hsb : (startsN ms o != 0) = true := bne_iff_ne.2 hs0
          rw [decide_eq_false hs0, Bool.false_and]
          clear hs0 hBm HLm
          generalize startsN ms o = x5 at *
          go_wp2_with fail
          go_ret
          exact ⟨rfl, hbx10⟩
        rw [hs0, decide_eq_true rfl, Bool.true_and]
        cases hk : checkB ms c p o with
        | false =>
          clear hBm HLm hk hs0
          go_wp2_with fail
          go_ret
          exact ⟨rfl, hbx10⟩
        | true =>
          have hle := hBm hs0 hk
          obtain ⟨hl5, hbd5⟩ := startsN_zero hs0
          have hlb := lenTo_bd ((right_iff ms).1 hrm) hl5 hbd5 ms.length (Nat.le_refl _)
          have HLn : Hid (∀ w1, Below w9.heap.size w9 w1 → Calls Try.prog 15 #[.slice A5 ms.length c5, .slice A2 o.length c2] w1 fun e w' => e = .returned (.tuple #[.int .i64 (lenTo ms o ms.length), .int .i64 0]) ∧ Below w1.heap.size w1 w') := fun w1 hb => (HLm.out w1 hb).mono fun e w' ⟨h1, h2⟩ => by
            rcases h2 with ⟨hno, -⟩ | ⟨-, h2⟩
            · rw [hrm] at hno; cases hno
            · rw [hs0, if_pos rfl] at h2
              exact ⟨h2, h1⟩
          clear hBm HLm hk hs0 hl5 hbd5 hrm hvm
          generalize lenTo ms o ms.length = k5 at *
          go_wp2_with fail
          refine (HLn.out _ hb10).mono ?_
          rintro e w11 ⟨rfl, hb11⟩
          have hww : IntKind.i64.wrap (a + k5) = a + k5 := IntWalk.i64_in _ (by omega)
          have hd : decide (a + n ≤ a + k5) = true := decide_eq_true (by omega)
          go_wp2_with fail
          go_ret
          exact ⟨rfl, hbx10.trans (hb11.mono hbx10.size)⟩

end Go.Proofs.Ytfcfphamecbcgaa

/- ReplanBest: for every input the law returns true, and its arguments read as they did. -/
namespace Go.Proofs.Ytfcfphamecbcgaa
open Go.ChangeShapes Go.WideShapes Go.ChangeAt Go.RowKit

set_option maxRecDepth 100000 in
theorem replanBest_lifted (os : Os) (started : os.Started) (H : Type) (enc : TypeId × Value → H) :
    ReturnsInHanded {} Try.checked os 6 .any (Rows.replanBestSpec.pre6 enc Try.prog Try.f6 Rows.replanBestRow.domain false) (Rows.replanBestSpec.post enc Try.prog Try.f6 false true false false) := by
  refine law_lifted started (by kernel_rfl) Try.func6 rfl (by kernel_rfl) ?_ ?_ (ChangeSpec.witness6 (enc := enc) (C := Try.checked) false ⟨#[], #[.slice none 0 0, .int .i64 0, .int .i64 0, .slice none 0 0, .slice none 0 0, .int .i64 0], []⟩ 8 (by kernel_rfl) (by kernel_rfl) (by kernel_rfl) (by kernel_rfl)) ?_
  · rw [Try.params6]
    intro t ht
    simp only [List.mem_cons, List.not_mem_nil, or_false] at ht
    rcases ht with rfl | rfl | rfl | rfl | rfl | rfl <;> exact ⟨by kernel_rfl, of_decide_eq_true (by kernel_rfl)⟩
  · intro ds hds
    match ds, hds with
    | [d0, d1, d2, d3, d4, d5], _ => exact ⟨rfl, rfl, rfl⟩
  · intro W base args ds ps hval hA
    rw [Try.params6] at hA hval
    obtain ⟨v0, vs0, d0, ds0, p0, q0, hargs, rfl, rfl, h0, r0⟩ := trodAll_cons hA
    obtain ⟨v1, vs1, d1, ds1, p1, q1, rfl, rfl, rfl, h1, r1⟩ := trodAll_cons r0
    obtain ⟨v2, vs2, d2, ds2, p2, q2, rfl, rfl, rfl, h2, r2⟩ := trodAll_cons r1
    obtain ⟨v3, vs3, d3, ds3, p3, q3, rfl, rfl, rfl, h3, r3⟩ := trodAll_cons r2
    obtain ⟨v4, vs4, d4, ds4, p4, q4, rfl, rfl, rfl, h4, r4⟩ := trodAll_cons r3
    obtain ⟨v5, vs5, d5, ds5, p5, q5, rfl, rfl, rfl, h5, r5⟩ := trodAll_cons r4
    obtain ⟨rfl, rfl, rfl⟩ := trodAll_nil r5
    obtain rfl : args = #[v0, v1, v2, v3, v4, v5] := by cases args; simp_all
    obtain ⟨a0, n0, c0, rfl⟩ := okWide_slice Try.underlying22 (hval 0 22 v0 rfl rfl)
    obtain ⟨fuel0, hf0⟩ := h0
    obtain ⟨x0, hx0⟩ := tasks_of_trod hf0
    obtain ⟨x1, rfl, -, -, wf1⟩ := open_int Try.underlying3 (hval 1 3 v1 rfl rfl) h1
    clear wf1
    obtain ⟨x2, rfl, -, -, wf2⟩ := open_int Try.underlying3 (hval 2 3 v2 rfl rfl) h2
    clear wf2
    obtain ⟨a3, n3, c3, rfl⟩ := okWide_slice Try.underlying23 (hval 3 23 v3 rfl rfl)
    obtain ⟨fuel3, hf3⟩ := h3
    obtain ⟨x3, hx3, hw3⟩ := ints_of_trod hf3
    obtain ⟨a4, n4, c4, rfl⟩ := okWide_slice Try.underlying23 (hval 4 23 v4 rfl rfl)
    obtain ⟨fuel4, hf4⟩ := h4
    obtain ⟨x4, hx4, hw4⟩ := ints_of_trod hf4
    obtain ⟨x5, rfl, -, -, wf5⟩ := open_int Try.underlying3 (hval 5 3 v5 rfl rfl) h5
    clear wf5
    exact lawReplanBest _ _ _ x0 x1 x2 x3 x4 x5 W hx0 hx3 hw3 hx4 hw4

theorem replanBest_holds : Rows.ReplanBestSaid :=
  OpenClaim.holds_of_wide 6 Try.f6 rfl rfl rfl rfl rfl rfl rfl ⟨rfl, rfl, rfl, rfl, rfl⟩ rfl rfl rfl rfl rfl (by kernel_rfl) Try.func6 (by kernel_rfl)
    (of_decide_eq_true (by kernel_rfl)) (by unfold Func.isWrapper; first | (rw [if_pos (by decide +kernel)]; kernel_rfl) | (rw [if_neg (by decide +kernel)]; exact ⟨rfl, rfl⟩))
    (fun os started H enc _ => replanBest_lifted os started H enc)
#print axioms replanBest_holds

end Go.Proofs.Ytfcfphamecbcgaa
