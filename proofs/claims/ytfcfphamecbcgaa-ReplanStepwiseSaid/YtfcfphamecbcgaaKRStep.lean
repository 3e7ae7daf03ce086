/- For every input the law returns true, and its arguments read as they did: StepP, LawStepwise, RowRStep. -/
import Derived.Test.YtfcfphamecbcgaaG10
import Derived.Test.YtfcfphamecbcgaaG15
import Derived.Test.YtfcfphamecbcgaaG17
import Derived.Test.YtfcfphamecbcgaaG19
import Derived.Test.YtfcfphamecbcgaaG7

/- The state of a state: what the law asks. No program in sight. -/
namespace Go.Proofs.Ytfcfphamecbcgaa
open Go.RowKit Go.Shelf

section
variable {l ms : List Task} {s : List Int} {a d : Int}
theorem con_ord {m : List Task} (h : norms l = norms m) : ordB l s = ordB m s := by
  unfold ordB
  rw [con_len h]
  congr 1
  funext i
  rw [con_rowAt h]
  congr 1
  funext k
  rw [con_end h]
theorem rest_len : (restS l s a).length = (liveZ l s a).length := by simp [restS]
theorem rest_bd (hR : RightT l) (hlen : s.length = l.length) (hbd : ∀ x ∈ s, 0 ≤ x ∧ x ≤ 1000000) (ha : 0 ≤ a) : ∀ x ∈ restS l s a, 0 ≤ x ∧ x ≤ 1000000 := fun x hx => by
  unfold restS at hx
  obtain ⟨i, hi, rfl⟩ := List.mem_map.1 hx
  have h1 := (mem_live.1 hi).1
  have h2 := hbd _ (List.getElem_mem (show i < s.length by omega))
  rw [← atI_get (by omega)] at h2
  omega
theorem step_given (hg : givenR l s a = 0) (hN : norms ms = stateN l s a) (hd : 0 ≤ d ∧ d ≤ 65535) : givenR ms (restS l s a) d = 0 ∧ (givenR l s (a + d) = 0 ∨ (givenR l s (a + d) = 2 ∧ 1000000 < a + d)) ∧ stateN ms (restS l s a) d = stateN l s (a + d) := by
  obtain ⟨hR, hst, ha0, ha1, ho⟩ := givenR_zero hg
  obtain ⟨hlen, hbd⟩ := startsN_zero hst
  have hcn : norms (stateN l s a) = norms ms := norms_state.trans hN.symm
  have hS := con_sub hcn (sub_state (s := s) (a := a) hR)
  refine ⟨?_, ?_, ?_⟩
  · have h1 : startsN ms (restS l s a) = 0 := startsN_ok (by rw [rest_len, ← con_len hcn, state_len]) (rest_bd hR hlen hbd ha0)
    have h2 : ordB ms (restS l s a) = true := by rw [← con_ord hcn]; exact state_ord hR ho
    unfold givenR
    rw [if_pos ((right_iff _).2 (hS.right hR)), if_pos h1, if_neg (by omega), if_pos h2]
  · unfold givenR
    rw [if_pos ((right_iff _).2 hR), if_pos hst, if_pos ho]
    by_cases h : 1000000 < a + d
    · exact .inr ⟨by rw [if_pos (.inr h)], h⟩
    · exact .inl (by rw [if_neg (by omega)])
  · rw [← con_state hcn]
    exact state_step hR hd.1
theorem state_empty (hg : givenR l s a = 0) (hN : norms ms = stateN l s a) : ((ms.length : Int) == 0) = decide (lenTo l s l.length ≤ a) := by
  obtain ⟨hR, hst, ha0, ha1, ho⟩ := givenR_zero hg
  have hl := con_len (norms_state.trans hN.symm)
  rw [state_len] at hl
  rw [Bool.eq_iff_iff, beq_iff_eq, decide_eq_true_iff]
  constructor
  · intro h
    refine lenTo_le ha0 _ fun i hi => ?_
    apply Classical.byContradiction
    intro hno
    have : i ∈ liveZ l s a := mem_live.2 ⟨hi, by omega⟩
    rw [List.length_eq_zero_iff.1 (show (liveZ l s a).length = 0 by omega)] at this
    cases this
  · intro h
    have : liveZ l s a = [] := by
      apply List.eq_nil_iff_forall_not_mem.2
      intro i hi
      obtain ⟨h1, h2⟩ := mem_live.1 hi
      have := lenTo_ge (l := l) (s := s) l.length i h1
      omega
    rw [this] at hl
    simp at hl
    omega
/-- The first of the starts that are left. -/
def restTo (l : List Task) (s : List Int) (a : Int) (k : Nat) : List Int := ((List.range k).filter (liveB l s a)).map fun i => max 0 (atI s i - a)
theorem restTo_all : restTo l s a l.length = restS l s a := rfl
theorem restTo_succ {k : Nat} : restTo l s a (k + 1) = restTo l s a k ++ if liveB l s a k then [max 0 (atI s k - a)] else [] := by
  unfold restTo
  rw [List.range_succ, List.filter_append, List.map_append]
  congr 1
  cases h : liveB l s a k <;> simp [h]
theorem restTo_len {k : Nat} : (restTo l s a k).length ≤ k := by
  unfold restTo
  rw [List.length_map]
  have := List.length_filter_le (liveB l s a) (List.range k)
  rwa [List.length_range] at this
end

end Go.Proofs.Ytfcfphamecbcgaa

/- The law ReplanStepwise: the walk. -/
namespace Go.Proofs.Ytfcfphamecbcgaa
open Go.RowKit Go.Shelf

set_option maxRecDepth 100000 in
set_option maxHeartbeats 8000000 in
theorem lawReplanStepwise (v u : Value) (l : List Task) (s : List Int) (a d : Int) (w : World) (hl : TasksAt w w.heap.size v l) (hs : IntsAt w w.heap.size u s) (hw : Wide s) (hd : 0 ≤ d ∧ d ≤ 65535) :
    Calls Try.prog 4 #[v, u, .int .i64 a, .int .u16 d] w fun e w' => e = .returned (.bool true) ∧ Below w.heap.size w w' := by
  have hA := lawAwake45 w
  have HT : Hid (∀ w1, Below w.heap.size w w1 → TasksAt w1 w1.heap.size v l) := fun w1 hb => (hl.below hb (Nat.le_refl _)).mono hb.size
  have HTw : Hid (∀ w1, Below w.heap.size w w1 → TasksAt w1 w.heap.size v l) := fun w1 hb => hl.below hb (Nat.le_refl _)
  have HS : Hid (∀ w1, Below w.heap.size w w1 → IntsAt w1 w1.heap.size u s) := fun w1 hb => (hs.below hb (Nat.le_refl _)).mono hb.size
  have hLong := fun w1 hb => lawLarge v l w1 (HT.out w1 hb)
  have HSt : Hid (∀ a w1, Below w.heap.size w w1 → Calls Try.prog 11 #[v, u, .int .i64 a] w1 (StateTop l s a w1)) := fun a w1 hb => rpStateTop v u l s a w1 (HT.out w1 hb) (HS.out w1 hb) hw
  have HLn : Hid (∀ w1, Below w.heap.size w w1 → Calls Try.prog 15 #[v, u] w1 (LengthPost l s w1)) := fun w1 hb => schedLength v u l s w1 (HT.out w1 hb) (HS.out w1 hb) hw
  obtain ⟨A, cc, rfl, hA1, hA2, -⟩ := hl.open_
  obtain ⟨A1, c1, rfl, hB1, hB2, hBc⟩ := hs.open_
  unfold maxLen at hA2 hB2
  have HC0 : Hid (s.length = l.length → ∀ (k : Nat), k < l.length → ∃ b1 off1, A1 = some ⟨b1, off1, none⟩ ∧ ∀ w', Below w.heap.size w w' → w'.cell? ⟨b1, off1 + k, none⟩ = some (.int .i64 (atI s k))) := fun hlen k hk => by
    obtain ⟨b1, off1, e, hb, hc⟩ := hBc k (by omega)
    exact ⟨b1, off1, e, fun w' hb' => by rw [atI_get (by omega)]; exact (hb'.cell (p := ⟨b1, off1 + k, none⟩) hb).trans (hc k (by omega))⟩
  obtain ⟨hd0, hd1⟩ := hd
  clear hl hs hw hBc
  cases hlg : largeB l with
  | true =>
    rw [hlg] at hLong
    clear hlg
    go_enter Try.func4, Try.ntmps4
    go_wp2_with (first
      | (go_at_call 9; refine hA.mono ?_; rintro e w1 ⟨rfl, hb1⟩)
      | (go_at_call 10; refine (hLong _ hb1).mono ?_; rintro e w2 ⟨rfl, hb2⟩))
    go_ret
    exact ⟨rfl, hb1.trans (hb2.mono hb1.size)⟩
  | false =>
    rw [hlg] at hLong
    clear hlg
    by_cases h20 : 20 < s.length
    · have h20b : decide ((20 : Int) < s.length) = true := by simp; omega
      go_enter Try.func4, Try.ntmps4
      go_wp2_with (first
        | (go_at_call 9; refine hA.mono ?_; rintro e w1 ⟨rfl, hb1⟩)
        | (go_at_call 10; refine (hLong _ hb1).mono ?_; rintro e w2 ⟨rfl, hb2⟩))
      go_ret
      exact ⟨rfl, hb1.trans (hb2.mono hb1.size)⟩
    have h20b : decide ((20 : Int) < s.length) = false := by simp; omega
    clear h20
    go_enter Try.func4, Try.ntmps4
    go_wp2_with (first
      | (go_at_call 9; refine hA.mono ?_; rintro e w1 ⟨rfl, hb1⟩)
      | (go_at_call 10; refine (hLong _ hb1).mono ?_; rintro e w2 ⟨rfl, hb2⟩; have hbx := hb1.trans (hb2.mono hb1.size); clear hb1 hb2 hA hLong))
    refine (HSt.out a _ hbx).mono ?_
    rintro e w3 ⟨hb3, hpost⟩
    have hbx3 := hbx.trans (hb3.mono hbx.size)
    rcases hpost with ⟨hg, rfl⟩ | ⟨hg, va, ms, rfl, hT, hN⟩
    · generalize givenR l s a = x at *
      have hxb : (x != 0) = true := bne_iff_ne.2 hg
      clear hg
      go_wp2_with fail
      go_ret
      exact ⟨rfl, hbx3⟩
    obtain ⟨hR, hst, ha0, ha1, ho⟩ := givenR_zero hg
    obtain ⟨hlen, hbd⟩ := startsN_zero hst
    obtain ⟨q1, q2, q3⟩ := step_given hg hN ⟨hd0, hd1⟩
    have hse := state_empty hg hN
    have h8 := hR.len
    have hrr := right_iff l |>.2 hR
    have HC := Lib.hid (HC0.out hlen)
    have HR := Lib.hid hR
    have Hat : Hid (∀ i, i < l.length → 0 ≤ atI s i ∧ atI s i ≤ 1000000) := fun i hi => by rw [atI_get (by omega)]; exact hbd _ (List.getElem_mem _)
    have HSm := Lib.hid q3
    have HG2 : Hid (givenR ms (restS l s a) d = 0) := q1
    have HG3 := Lib.hid q2
    have HWr : Hid (Wide (restS l s a)) := wide_of (M := 1000000) (by omega) (rest_bd hR hlen hbd ha0)
    have HT3 : Hid (∀ w1, Below w3.heap.size w3 w1 → TasksAt w1 w1.heap.size va ms) := fun w1 hb => (hT.below hb (Nat.le_refl _)).mono hb.size
    have Hlen := Lib.hid hlen
    have HLn2 : Hid (∀ w1, Below w.heap.size w w1 → Calls Try.prog 15 #[.slice A l.length cc, .slice A1 s.length c1] w1 fun e w' => e = .returned (.tuple #[.int .i64 (lenTo l s l.length), .int .i64 0]) ∧ Below w1.heap.size w1 w') := fun w1 hb => (HLn.out w1 hb).mono fun e w' ⟨hb2, h⟩ => by
      rcases h with ⟨hno, -⟩ | ⟨-, h⟩
      · rw [hrr] at hno; cases hno
      · rw [hst, if_pos rfl] at h
        exact ⟨h, hb2⟩
    have hlb : ((s.length : Int) != (l.length : Int)) = false := by rw [hlen]; simp
    obtain ⟨A3, c3, rfl, -, -, -⟩ := hT.open_
    clear hg hst ho hbd hN q1 q2 q3 hR hrr hT hlen HLn HC0
    have hbl : (((ms.length : Int) == 0) != decide (lenTo l s l.length ≤ a)) = false := by rw [hse]; simp
    go_wp2_with fail
    refine (HLn2.out _ hbx3).mono ?_
    rintro e w4 ⟨rfl, hb4⟩
    have hbx4 := hbx3.trans (hb4.mono hbx3.size)
    have hbx34 := hb4
    clear hb3
    have hst3 : w.heap.size ≤ w3.heap.size := hbx3.size
    rw [Hlen.out] at hB1
    have HLive : Hid (∀ k (hk : k < l.length), liveB l s a k = decide (a < atI s k + l[k].len)) := fun k hk => by unfold liveB endN; rw [lenAt_eq hk]
    generalize lenTo l s l.length = n at *
    go_wp2_with fail
    go_loopw [67, 13] (fun ix ov wr => ∃ (k : Nat) (A4 : Option Addr) (cap4 : Nat), k ≤ l.length ∧ ix = .int .i64 k ∧ ov = .slice A4 (restTo l s a k).length cap4 ∧
      Hid (wr.ownsRow w4.heap.size 3 1 (.slice A4 (restTo l s a k).length cap4) (restTo l s a k).length ((restTo l s a k).map (Value.int .i64))) ∧ Below w4.heap.size w4 wr) (fun ix _ _ => l.length - (intOf ix).toNat)
    case atStart => exact ⟨0, none, 0, Nat.zero_le _, rfl, rfl, World.ownsRow_nil _ _ _ _, Below.refl _ _⟩
    case round =>
      obtain ⟨k, A4, cap4, hk, rfl, rfl, Hown, hbe⟩ := hrel
      have hbw : Below w.heap.size w wr := hbx4.trans (hbe.mono hbx4.size)
      by_cases hkl : k < l.length
      · obtain ⟨b0, off0, rfl, hb0, hct⟩ := (HTw.out wr hbw).cells hkl
        obtain ⟨t0, t1, t2, t3, t4⟩ := hct k hkl
        obtain ⟨b1, off1, e1, hsc⟩ := HC.out k hkl
        subst e1
        have hs1 : (wr.alloc (.cells #[.string l[k].name, .int .i64 l[k].len, .int .i64 l[k].crew, .int .i64 l[k].pow, .slice l[k].ba l[k].bef.length l[k].bc] 38)).cell? ⟨b1, off1 + k, none⟩ = some (.int .i64 (atI s k)) := hsc _ (hbw.alloc hbw.size _)
        have hat := Hat.out k hkl
        have hln := fieldB_len (HR.out.field k hkl)
        have HLv := Lib.hid (HLive.out k hkl)
        have HL1 : Hid (liveB l s a k = true → restTo l s a (k + 1) = restTo l s a k ++ [max 0 (atI s k - a)]) := fun h => by rw [restTo_succ, h]; rfl
        have HL2 : Hid (liveB l s a k = false → restTo l s a (k + 1) = restTo l s a k) := fun h => by rw [restTo_succ, h]; simp
        have hrl := restTo_len (l := l) (s := s) (a := a) (k := k)
        have hsz := hbe.size
        rw [HLv.out] at HL1 HL2
        have i1 : (0 : Int) ≤ (k : Int) := Int.natCast_nonneg _
        have i2 : (k : Int) < (l.length : Int) := by omega
        have i3 : (k : Int) < (s.length : Int) := by have := Hlen.out; omega
        have hbA : Below w4.heap.size w4 (wr.alloc (.cells #[.string l[k].name, .int .i64 l[k].len, .int .i64 l[k].crew, .int .i64 l[k].pow, .slice l[k].ba l[k].bef.length l[k].bc] 38)) := hbe.alloc hsz _
        have HownA : Hid ((wr.alloc (.cells #[.string l[k].name, .int .i64 l[k].len, .int .i64 l[k].crew, .int .i64 l[k].pow, .slice l[k].ba l[k].bef.length l[k].bc] 38)).ownsRow w4.heap.size 3 1 (.slice A4 (restTo l s a k).length cap4) (restTo l s a k).length ((restTo l s a k).map (Value.int .i64))) := Hown.out.alloc _
        clear hct hsc HLv hbw
        generalize l[k].ba = ba at *
        generalize atI s k = x at *
        generalize hll : l[k].len = ln at *
        have w1' : IntKind.i64.wrap (x + ln) = x + ln := IntWalk.i64_in _ (by omega)
        have w2' : IntKind.i64.wrap (x - a) = x - a := IntWalk.i64_in _ (by omega)
        by_cases hq : a < x + ln
        · have HL' := Lib.hid (HL1.out (decide_eq_true hq))
          have hb : decide (a < x + ln) = true := decide_eq_true hq
          clear hq HL1 HL2
          go_wp2_with fail
          have hy := World.cell?_alloc_new wr #[.string l[k].name, .int .i64 ln, .int .i64 l[k].crew, .int .i64 l[k].pow, .slice ba l[k].bef.length l[k].bc] 38
          have y1 := hy 1
          simp only [List.getElem?_toArray, List.getElem?_cons_succ, List.getElem?_cons_zero] at y1
          generalize wr.alloc (.cells #[.string l[k].name, .int .i64 ln, .int .i64 l[k].crew, .int .i64 l[k].pow, .slice ba l[k].bef.length l[k].bc] 38) = wt at *
          clear hy t0 t1 t2 t3 t4
          go_quiet (fail)
          go_wp2_with (at_builtin; refine wpList_pushN _ rfl (.tmp 81) (.tmp 89) 23 rfl w4.heap.size 3 info_int Try.underlying23 rfl _ (restTo l s a k).length _ rfl (own_drewN HownA.out _) (.int .i64 (max 0 (x - a))) rfl wt.heap.size (by simp) rfl (by unfold maxLen; omega) (by omega) hbA.size ?_; intro g3 cap6 w6 hown6 hg6 hbg6 hgg6)
          have hown6' : w6.ownsRow w4.heap.size 3 1 (.slice (some ⟨g3, 0, none⟩) (restTo l s a (k + 1)).length cap6) (restTo l s a (k + 1)).length ((restTo l s a (k + 1)).map (Value.int .i64)) := by
            rw [HL'.out, List.length_append, List.length_singleton, List.map_append]
            exact hown6
          have hb6 := (below_drewN hbA _).grown hg6 (by simpa using hbA.size) (fun k hk => (HownA.out.lt k hk).1)
          have Hown6 := Lib.hid hown6'
          clear hown6 hown6' hg6 hgg6
          go_roundw
          case rel => exact ⟨k + 1, some ⟨g3, 0, none⟩, cap6, by omega, by go_num, by rw [HL'.out, List.length_append, List.length_singleton], Hown6, hb6⟩
          case measure => simp [intOf]; omega
        · have HL' := Lib.hid (HL2.out (decide_eq_false hq))
          have hb : decide (a < x + ln) = false := decide_eq_false hq
          clear hq HL1 HL2
          go_wp2_with fail
          have hy := World.cell?_alloc_new wr #[.string l[k].name, .int .i64 ln, .int .i64 l[k].crew, .int .i64 l[k].pow, .slice ba l[k].bef.length l[k].bc] 38
          have y1 := hy 1
          simp only [List.getElem?_toArray, List.getElem?_cons_succ, List.getElem?_cons_zero] at y1
          generalize wr.alloc (.cells #[.string l[k].name, .int .i64 ln, .int .i64 l[k].crew, .int .i64 l[k].pow, .slice ba l[k].bef.length l[k].bc] 38) = wt at *
          clear hy t0 t1 t2 t3 t4
          go_quiet (fail)
          go_wp2_with fail
          go_roundw
          case rel => exact ⟨k + 1, A4, cap4, by omega, by go_num, by rw [HL'.out], by rw [HL'.out]; exact Lib.hid (own_drewN HownA.out _), below_drewN hbA _⟩
          case measure => simp [intOf]; omega
      · obtain rfl : k = l.length := by omega
        rw [restTo_all] at Hown
        have HI : Hid (∀ w1, Below wr.heap.size wr w1 → IntsAt w1 w1.heap.size (.slice A4 (restS l s a).length cap4) (restS l s a)) := fun w1 hb => ((RowAt.of_own (own_mono Hown.out (Nat.zero_le _))).below hb (Nat.le_refl _)).mono hb.size
        have hb3r : Below w3.heap.size w3 wr := hbx34.trans (hbe.mono hbx34.size)
        have HSt2 : Hid (∀ w1, Below wr.heap.size wr w1 → Calls Try.prog 11 #[.slice A3 ms.length c3, .slice A4 (restS l s a).length cap4, .int .i64 d] w1 (StateTop ms (restS l s a) d w1)) := fun w1 hb => rpStateTop _ _ ms _ d w1 (HT3.out w1 (hb3r.trans (hb.mono hb3r.size))) (HI.out w1 hb) HWr.out
        have hsz := hbw.size
        have c1' : IntKind.i64.wrap d = d := IntWalk.i64_in _ (by omega)
        have c2' : IntKind.i64.wrap (a + d) = a + d := IntWalk.i64_in _ (by omega)
        clear Hown HLive hkl hk
        go_wp2_with fail
        refine (HSt.out (a + d) _ hbw).mono ?_
        rintro e w5 ⟨hb5, hp5⟩
        have hbx5 := hbw.trans (hb5.mono hsz)
        rcases hp5 with ⟨hn5, rfl⟩ | ⟨-, v5, m5, rfl, hT5, hN5⟩
        · have h2 := HG3.out.resolve_left hn5
          have h2b : decide (1000000 < a + d) = true := decide_eq_true h2.2
          rw [h2.1]
          clear hn5 h2
          go_wp2_with fail
          refine (HSt2.out _ hb5).mono ?_
          rintro e w6 ⟨hb6, hp6⟩
          have hbx6 := hbx5.trans (hb6.mono hbx5.size)
          rcases hp6 with ⟨hn6, -⟩ | ⟨-, v6, m6, rfl, hT6, hN6⟩
          · exact absurd HG2.out hn6
          go_wp2_with fail
          go_ret
          exact ⟨rfl, hbx6⟩
        · go_wp2_with fail
          refine (HSt2.out _ hb5).mono ?_
          rintro e w6 ⟨hb6, hp6⟩
          have hbx6 := hbx5.trans (hb6.mono hbx5.size)
          rcases hp6 with ⟨hn6, -⟩ | ⟨-, v6, m6, rfl, hT6, hN6⟩
          · exact absurd HG2.out hn6
          have hsame := refSame v5 v6 m5 m6 w6 ((hT5.below hb6 (Nat.le_refl _)).mono hb6.size) hT6 (by rw [hN5, hN6, HSm.out])
          clear hT5 hN5 hT6 hN6
          go_wp2_with fail
          refine hsame.mono ?_
          rintro e w7 ⟨rfl, hb7⟩
          go_wp2_with fail
          go_ret
          exact ⟨rfl, hbx6.trans (hb7.mono hbx6.size)⟩

end Go.Proofs.Ytfcfphamecbcgaa

/- ReplanStepwise: for every input the law returns true, and its arguments read as they did. -/
namespace Go.Proofs.Ytfcfphamecbcgaa
open Go.ChangeShapes Go.WideShapes Go.ChangeAt Go.RowKit

theorem replanStepwise_u16 {y : Int} (h : (Lit.int .u16 y).wf = true) : 0 ≤ y ∧ y ≤ 65535 := by
  simp [Lit.wf, IntKind.min, IntKind.max, IntKind.signed, IntKind.bits] at h
  omega

set_option maxRecDepth 100000 in
theorem replanStepwise_lifted (os : Os) (started : os.Started) (H : Type) (enc : TypeId × Value → H) :
    ReturnsInHanded {} Try.checked os 4 .any (Rows.replanStepwiseSpec.pre6 enc Try.prog Try.f4 Rows.replanStepwiseRow.domain false) (Rows.replanStepwiseSpec.post enc Try.prog Try.f4 false true false false) := by
  refine law_lifted started (by kernel_rfl) Try.func4 rfl (by kernel_rfl) ?_ ?_ (ChangeSpec.witness6 (enc := enc) (C := Try.checked) false ⟨#[], #[.slice none 0 0, .slice none 0 0, .int .i64 0, .int .u16 0], []⟩ 8 (by kernel_rfl) (by kernel_rfl) (by kernel_rfl) (by kernel_rfl)) ?_
  · rw [Try.params4]
    intro t ht
    simp only [List.mem_cons, List.not_mem_nil, or_false] at ht
    rcases ht with rfl | rfl | rfl | rfl <;> exact ⟨by kernel_rfl, of_decide_eq_true (by kernel_rfl)⟩
  · intro ds hds
    match ds, hds with
    | [d0, d1, d2, d3], _ => exact ⟨rfl, rfl, rfl⟩
  · intro W base args ds ps hval hA
    rw [Try.params4] at hA hval
    obtain ⟨v0, vs0, d0, ds0, p0, q0, hargs, rfl, rfl, h0, r0⟩ := trodAll_cons hA
    obtain ⟨v1, vs1, d1, ds1, p1, q1, rfl, rfl, rfl, h1, r1⟩ := trodAll_cons r0
    obtain ⟨v2, vs2, d2, ds2, p2, q2, rfl, rfl, rfl, h2, r2⟩ := trodAll_cons r1
    obtain ⟨v3, vs3, d3, ds3, p3, q3, rfl, rfl, rfl, h3, r3⟩ := trodAll_cons r2
    obtain ⟨rfl, rfl, rfl⟩ := trodAll_nil r3
    obtain rfl : args = #[v0, v1, v2, v3] := by cases args; simp_all
    obtain ⟨a0, n0, c0, rfl⟩ := okWide_slice Try.underlying22 (hval 0 22 v0 rfl rfl)
    obtain ⟨fuel0, hf0⟩ := h0
    obtain ⟨x0, hx0⟩ := tasks_of_trod hf0
    obtain ⟨a1, n1, c1, rfl⟩ := okWide_slice Try.underlying23 (hval 1 23 v1 rfl rfl)
    obtain ⟨fuel1, hf1⟩ := h1
    obtain ⟨x1, hx1, hw1⟩ := ints_of_trod hf1
    obtain ⟨x2, rfl, -, -, wf2⟩ := open_int Try.underlying3 (hval 2 3 v2 rfl rfl) h2
    clear wf2
    obtain ⟨x3, rfl, -, -, wf3⟩ := open_int Try.underlying33 (hval 3 33 v3 rfl rfl) h3
    exact lawReplanStepwise _ _ x0 x1 x2 x3 W hx0 hx1 hw1 (replanStepwise_u16 wf3)

theorem replanStepwise_holds : Rows.ReplanStepwiseSaid :=
  OpenClaim.holds_of_wide 4 Try.f4 rfl rfl rfl rfl rfl rfl rfl ⟨rfl, rfl, rfl, rfl, rfl⟩ rfl rfl rfl rfl rfl (by kernel_rfl) Try.func4 (by kernel_rfl)
    (of_decide_eq_true (by kernel_rfl)) (by unfold Func.isWrapper; first | (rw [if_pos (by decide +kernel)]; kernel_rfl) | (rw [if_neg (by decide +kernel)]; exact ⟨rfl, rfl⟩))
    (fun os started H enc _ => replanStepwise_lifted os started H enc)
#print axioms replanStepwise_holds

end Go.Proofs.Ytfcfphamecbcgaa
